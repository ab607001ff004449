/- busbarref18: a move's instructions. -/
import Derived.Test.YtmpeipdeablkdaaGreatDoorFrC
import Derived.Test.YtmpeipdeablkdaaGreatDoorFusQ
namespace Go.Proofs.YtmpeipdeablkdaaGreatDoor
open Go.RowKit

namespace Code

attribute [local go_sem ↓] Go.wp_at_zero Go.wp_at_succ

set_option maxRecDepth 100000 in
set_option maxHeartbeats 3200000 in
theorem code18_in_up (m : B.Mv) (hm : m.Ok) (hi : m.inn = true) (hs : 0 < m.sh) (w : World) :
    Calls Tryz.prog 90 #[.agg (mrF m)] w (CodeOut m.code w) := by
 have hb8 : m.b ≤ 8 := by have := hm.be; have := hm.e8; omega
 have he8 : m.e ≤ 8 := hm.e8
 have hbe : m.b < m.e := hm.be
 have h0 := hm.sh0
 have h1 := hm.sh1
 have hsh : m.way - 8 * (m.b : Int) = m.sh := by unfold B.Mv.sh; rw [hi]; rfl
 have hwb : m.way = m.sh + 8 * (m.b : Int) := by omega
 have HCD : Hid (m.code = ([⟨2, m.t, m.v, 0, 0⟩] ++ [⟨6, m.t, 0, m.sh, 0⟩]) ++ [⟨13, m.t, m.b, (m.e : Int) - (m.b : Int), m.bits⟩]) := by
  refine Lib.hid ?_
  unfold B.Mv.code
  rw [if_pos hi]
  unfold B.Mv.mid
  rw [if_pos hs]
  rfl
 obtain ⟨w0, hw0⟩ : ∃ w0, w.alloc (.cells (mrF m) 137) = w0 := ⟨_, rfl⟩
 have hz0 : w0.heap.size = w.heap.size + 1 := by rw [← hw0]; simp
 have HM0 : Hid (R8 w0 w.heap.size (mrF m)) := by rw [← hw0]; exact Lib.hid (R8.new (mrF m) rfl w rfl)
 have HB0 : Hid (Below w.heap.size w w0) := by rw [← hw0]; exact Lib.hid ((Below.refl _ _).alloc (Nat.le_refl _) _)
 obtain ⟨w1, hw1⟩ : ∃ w1, w0.alloc (.cells #[.int .i64 2, .int .i64 m.t, .int .i64 m.v, .int .i64 0, .int .u64 0] 24) = w1 := ⟨_, rfl⟩
 have HB01 : Hid (Below w0.heap.size w0 w1) := by rw [← hw1]; exact Lib.hid ((Below.refl w0.heap.size w0).alloc (Nat.le_refl _) _)
 have HM1 : Hid (R8 w1 w.heap.size (mrF m)) := Lib.hid (CellsAt.below HM0.out HB01.out (by omega))
 have HB1 : Hid (Below w.heap.size w w1) := Lib.hid (HB0.out.trans (HB01.out.mono (by omega)))
 have HO1 : Hid (OwnP w1 (w.heap.size + 1) (some ⟨w.heap.size + 1, 0, none⟩) 1 1 [⟨2, m.t, m.v, 0, 0⟩]) := by rw [← hw1]; exact Lib.hid (fown_one ⟨2, m.t, m.v, 0, 0⟩ _ _ _ (by omega) (by omega))
 have hz1 : w.heap.size + 1 ≤ w1.heap.size := by have := HB01.out.size; omega
 have c0 : w0.cell? ⟨w.heap.size, 0, none⟩ = some (.bool true) := by have := CellsAt.cell HM0.out (j := 0) (by omega); rw [this]; show some (Value.bool m.inn) = _; rw [hi]
 have c1 : w0.cell? ⟨w.heap.size, 1, none⟩ = some (.int .i64 m.t) := CellsAt.cell HM0.out (j := 1) (by omega)
 have c2 : w0.cell? ⟨w.heap.size, 2, none⟩ = some (.int .i64 m.v) := CellsAt.cell HM0.out (j := 2) (by omega)
 have c3 : w0.cell? ⟨w.heap.size, 3, none⟩ = some (.int .i64 m.way) := CellsAt.cell HM0.out (j := 3) (by omega)
 have c4 : w0.cell? ⟨w.heap.size, 4, none⟩ = some (.int .i64 m.b) := CellsAt.cell HM0.out (j := 4) (by omega)
 have c5 : w0.cell? ⟨w.heap.size, 5, none⟩ = some (.int .i64 ((m.e : Int) - (m.b : Int))) := CellsAt.cell HM0.out (j := 5) (by omega)
 have c6 : w0.cell? ⟨w.heap.size, 6, none⟩ = some (.int .u64 m.bits) := CellsAt.cell HM0.out (j := 6) (by omega)
 have k1 : IntKind.i64.wrap (8 * (m.b : Int)) = 8 * (m.b : Int) := IntWalk.i64_in _ (by omega)
 have k2 : IntKind.i64.wrap (m.way - 8 * (m.b : Int)) = m.sh := by rw [hsh]; exact IntWalk.i64_in _ (by omega)
 have k3 : IntKind.i64.wrap ((m.e : Int) - (m.b : Int)) = (m.e : Int) - (m.b : Int) := IntWalk.i64_in _ (by omega)
 have k4 : IntKind.i64.wrap (-m.sh) = -m.sh := IntWalk.i64_in _ (by omega)
 have q1 : decide (m.sh < 0) = false := by simp; omega
 clear hm hb8 he8 hbe h0 h1 hsh hwb
 have HI := Lib.hid hi
 clear hi
 obtain ⟨s, hss⟩ : ∃ s, m.sh = s := ⟨_, rfl⟩
 rw [hss] at k2 k4 HCD q1 hs
 clear hss
 rw [HCD.out]
 clear HCD
 have d0 : w1.cell? ⟨w.heap.size, 0, none⟩ = some (.bool true) := by have := CellsAt.cell HM1.out (j := 0) (by omega); rw [this]; show some (Value.bool m.inn) = _; rw [HI.out]
 have d1 : w1.cell? ⟨w.heap.size, 1, none⟩ = some (.int .i64 m.t) := CellsAt.cell HM1.out (j := 1) (by omega)
 have d2 : w1.cell? ⟨w.heap.size, 2, none⟩ = some (.int .i64 m.v) := CellsAt.cell HM1.out (j := 2) (by omega)
 have d3 : w1.cell? ⟨w.heap.size, 3, none⟩ = some (.int .i64 m.way) := CellsAt.cell HM1.out (j := 3) (by omega)
 have d4 : w1.cell? ⟨w.heap.size, 4, none⟩ = some (.int .i64 m.b) := CellsAt.cell HM1.out (j := 4) (by omega)
 have d5 : w1.cell? ⟨w.heap.size, 5, none⟩ = some (.int .i64 ((m.e : Int) - (m.b : Int))) := CellsAt.cell HM1.out (j := 5) (by omega)
 have d6 : w1.cell? ⟨w.heap.size, 6, none⟩ = some (.int .u64 m.bits) := CellsAt.cell HM1.out (j := 6) (by omega)
 go_enter Tryz.func90, Tryz.ntmps90
 go_upto_region 1 with fail
 clear hw0
 go_upto_region 7 with fail
 clear hw1 c0 c1 c2 c3 c4 c5 c6
 go_upto_region 10 with (at_builtin; refine app_ins rfl _ _ rfl (w.heap.size + 1) rfl HO1.out rfl (by omega) hz1 ?_; intro ao2 cp2 w2 hown2 hb2 hsz2)
 have HO2 := Lib.hid hown2
 have HB2 : Hid (Below w.heap.size w w2) := Lib.hid (HB1.out.trans (hb2.mono (by omega)))
 have HM2 : Hid (R8 w2 w.heap.size (mrF m)) := Lib.hid (CellsAt.below HM1.out hb2 (by omega))
 have hz2 : w.heap.size + 1 ≤ w2.heap.size := by omega
 clear hown2 hb2 d0 d1 d2 d3 d4 d5 d6 HM1 HO1 HB1
 have d0 : w2.cell? ⟨w.heap.size, 0, none⟩ = some (.bool true) := by have := CellsAt.cell HM2.out (j := 0) (by omega); rw [this]; show some (Value.bool m.inn) = _; rw [HI.out]
 have d1 : w2.cell? ⟨w.heap.size, 1, none⟩ = some (.int .i64 m.t) := CellsAt.cell HM2.out (j := 1) (by omega)
 have d2 : w2.cell? ⟨w.heap.size, 2, none⟩ = some (.int .i64 m.v) := CellsAt.cell HM2.out (j := 2) (by omega)
 have d3 : w2.cell? ⟨w.heap.size, 3, none⟩ = some (.int .i64 m.way) := CellsAt.cell HM2.out (j := 3) (by omega)
 have d4 : w2.cell? ⟨w.heap.size, 4, none⟩ = some (.int .i64 m.b) := CellsAt.cell HM2.out (j := 4) (by omega)
 have d5 : w2.cell? ⟨w.heap.size, 5, none⟩ = some (.int .i64 ((m.e : Int) - (m.b : Int))) := CellsAt.cell HM2.out (j := 5) (by omega)
 have d6 : w2.cell? ⟨w.heap.size, 6, none⟩ = some (.int .u64 m.bits) := CellsAt.cell HM2.out (j := 6) (by omega)
 go_wp2_with (at_builtin; refine app_ins rfl _ _ rfl (w.heap.size + 1) rfl HO2.out rfl (by omega) hz2 ?_; intro ao3 cp3 w3 hown3 hb3 hsz3)
 go_ret
 exact CodeOut.mk hown3 (HB2.out.trans (hb3.mono (by omega)))

set_option maxRecDepth 100000 in
set_option maxHeartbeats 3200000 in
theorem code18_in_down (m : B.Mv) (hm : m.Ok) (hi : m.inn = true) (hs : m.sh < 0) (w : World) :
    Calls Tryz.prog 90 #[.agg (mrF m)] w (CodeOut m.code w) := by
 have hb8 : m.b ≤ 8 := by have := hm.be; have := hm.e8; omega
 have he8 : m.e ≤ 8 := hm.e8
 have hbe : m.b < m.e := hm.be
 have h0 := hm.sh0
 have h1 := hm.sh1
 have hsh : m.way - 8 * (m.b : Int) = m.sh := by unfold B.Mv.sh; rw [hi]; rfl
 have hwb : m.way = m.sh + 8 * (m.b : Int) := by omega
 have HCD : Hid (m.code = ([⟨2, m.t, m.v, 0, 0⟩] ++ [⟨7, m.t, 0, -m.sh, 0⟩]) ++ [⟨13, m.t, m.b, (m.e : Int) - (m.b : Int), m.bits⟩]) := by
  refine Lib.hid ?_
  unfold B.Mv.code
  rw [if_pos hi]
  unfold B.Mv.mid
  rw [if_neg (by omega), if_pos hs]
  rfl
 obtain ⟨w0, hw0⟩ : ∃ w0, w.alloc (.cells (mrF m) 137) = w0 := ⟨_, rfl⟩
 have hz0 : w0.heap.size = w.heap.size + 1 := by rw [← hw0]; simp
 have HM0 : Hid (R8 w0 w.heap.size (mrF m)) := by rw [← hw0]; exact Lib.hid (R8.new (mrF m) rfl w rfl)
 have HB0 : Hid (Below w.heap.size w w0) := by rw [← hw0]; exact Lib.hid ((Below.refl _ _).alloc (Nat.le_refl _) _)
 obtain ⟨w1, hw1⟩ : ∃ w1, w0.alloc (.cells #[.int .i64 2, .int .i64 m.t, .int .i64 m.v, .int .i64 0, .int .u64 0] 24) = w1 := ⟨_, rfl⟩
 have HB01 : Hid (Below w0.heap.size w0 w1) := by rw [← hw1]; exact Lib.hid ((Below.refl w0.heap.size w0).alloc (Nat.le_refl _) _)
 have HM1 : Hid (R8 w1 w.heap.size (mrF m)) := Lib.hid (CellsAt.below HM0.out HB01.out (by omega))
 have HB1 : Hid (Below w.heap.size w w1) := Lib.hid (HB0.out.trans (HB01.out.mono (by omega)))
 have HO1 : Hid (OwnP w1 (w.heap.size + 1) (some ⟨w.heap.size + 1, 0, none⟩) 1 1 [⟨2, m.t, m.v, 0, 0⟩]) := by rw [← hw1]; exact Lib.hid (fown_one ⟨2, m.t, m.v, 0, 0⟩ _ _ _ (by omega) (by omega))
 have hz1 : w.heap.size + 1 ≤ w1.heap.size := by have := HB01.out.size; omega
 have c0 : w0.cell? ⟨w.heap.size, 0, none⟩ = some (.bool true) := by have := CellsAt.cell HM0.out (j := 0) (by omega); rw [this]; show some (Value.bool m.inn) = _; rw [hi]
 have c1 : w0.cell? ⟨w.heap.size, 1, none⟩ = some (.int .i64 m.t) := CellsAt.cell HM0.out (j := 1) (by omega)
 have c2 : w0.cell? ⟨w.heap.size, 2, none⟩ = some (.int .i64 m.v) := CellsAt.cell HM0.out (j := 2) (by omega)
 have c3 : w0.cell? ⟨w.heap.size, 3, none⟩ = some (.int .i64 m.way) := CellsAt.cell HM0.out (j := 3) (by omega)
 have c4 : w0.cell? ⟨w.heap.size, 4, none⟩ = some (.int .i64 m.b) := CellsAt.cell HM0.out (j := 4) (by omega)
 have c5 : w0.cell? ⟨w.heap.size, 5, none⟩ = some (.int .i64 ((m.e : Int) - (m.b : Int))) := CellsAt.cell HM0.out (j := 5) (by omega)
 have c6 : w0.cell? ⟨w.heap.size, 6, none⟩ = some (.int .u64 m.bits) := CellsAt.cell HM0.out (j := 6) (by omega)
 have k1 : IntKind.i64.wrap (8 * (m.b : Int)) = 8 * (m.b : Int) := IntWalk.i64_in _ (by omega)
 have k2 : IntKind.i64.wrap (m.way - 8 * (m.b : Int)) = m.sh := by rw [hsh]; exact IntWalk.i64_in _ (by omega)
 have k3 : IntKind.i64.wrap ((m.e : Int) - (m.b : Int)) = (m.e : Int) - (m.b : Int) := IntWalk.i64_in _ (by omega)
 have k4 : IntKind.i64.wrap (-m.sh) = -m.sh := IntWalk.i64_in _ (by omega)
 have q1 : decide (0 < m.sh) = false := by simp; omega
 clear hm hb8 he8 hbe h0 h1 hsh hwb
 have HI := Lib.hid hi
 clear hi
 obtain ⟨s, hss⟩ : ∃ s, m.sh = s := ⟨_, rfl⟩
 rw [hss] at k2 k4 HCD q1 hs
 clear hss
 rw [HCD.out]
 clear HCD
 have d0 : w1.cell? ⟨w.heap.size, 0, none⟩ = some (.bool true) := by have := CellsAt.cell HM1.out (j := 0) (by omega); rw [this]; show some (Value.bool m.inn) = _; rw [HI.out]
 have d1 : w1.cell? ⟨w.heap.size, 1, none⟩ = some (.int .i64 m.t) := CellsAt.cell HM1.out (j := 1) (by omega)
 have d2 : w1.cell? ⟨w.heap.size, 2, none⟩ = some (.int .i64 m.v) := CellsAt.cell HM1.out (j := 2) (by omega)
 have d3 : w1.cell? ⟨w.heap.size, 3, none⟩ = some (.int .i64 m.way) := CellsAt.cell HM1.out (j := 3) (by omega)
 have d4 : w1.cell? ⟨w.heap.size, 4, none⟩ = some (.int .i64 m.b) := CellsAt.cell HM1.out (j := 4) (by omega)
 have d5 : w1.cell? ⟨w.heap.size, 5, none⟩ = some (.int .i64 ((m.e : Int) - (m.b : Int))) := CellsAt.cell HM1.out (j := 5) (by omega)
 have d6 : w1.cell? ⟨w.heap.size, 6, none⟩ = some (.int .u64 m.bits) := CellsAt.cell HM1.out (j := 6) (by omega)
 go_enter Tryz.func90, Tryz.ntmps90
 go_upto_region 1 with fail
 clear hw0
 go_upto_region 9 with fail
 clear hw1 c0 c1 c2 c3 c4 c5 c6
 go_upto_region 10 with (at_builtin; refine app_ins rfl _ _ rfl (w.heap.size + 1) rfl HO1.out rfl (by omega) hz1 ?_; intro ao2 cp2 w2 hown2 hb2 hsz2)
 have HO2 := Lib.hid hown2
 have HB2 : Hid (Below w.heap.size w w2) := Lib.hid (HB1.out.trans (hb2.mono (by omega)))
 have HM2 : Hid (R8 w2 w.heap.size (mrF m)) := Lib.hid (CellsAt.below HM1.out hb2 (by omega))
 have hz2 : w.heap.size + 1 ≤ w2.heap.size := by omega
 clear hown2 hb2 d0 d1 d2 d3 d4 d5 d6 HM1 HO1 HB1
 have d0 : w2.cell? ⟨w.heap.size, 0, none⟩ = some (.bool true) := by have := CellsAt.cell HM2.out (j := 0) (by omega); rw [this]; show some (Value.bool m.inn) = _; rw [HI.out]
 have d1 : w2.cell? ⟨w.heap.size, 1, none⟩ = some (.int .i64 m.t) := CellsAt.cell HM2.out (j := 1) (by omega)
 have d2 : w2.cell? ⟨w.heap.size, 2, none⟩ = some (.int .i64 m.v) := CellsAt.cell HM2.out (j := 2) (by omega)
 have d3 : w2.cell? ⟨w.heap.size, 3, none⟩ = some (.int .i64 m.way) := CellsAt.cell HM2.out (j := 3) (by omega)
 have d4 : w2.cell? ⟨w.heap.size, 4, none⟩ = some (.int .i64 m.b) := CellsAt.cell HM2.out (j := 4) (by omega)
 have d5 : w2.cell? ⟨w.heap.size, 5, none⟩ = some (.int .i64 ((m.e : Int) - (m.b : Int))) := CellsAt.cell HM2.out (j := 5) (by omega)
 have d6 : w2.cell? ⟨w.heap.size, 6, none⟩ = some (.int .u64 m.bits) := CellsAt.cell HM2.out (j := 6) (by omega)
 go_wp2_with (at_builtin; refine app_ins rfl _ _ rfl (w.heap.size + 1) rfl HO2.out rfl (by omega) hz2 ?_; intro ao3 cp3 w3 hown3 hb3 hsz3)
 go_ret
 exact CodeOut.mk hown3 (HB2.out.trans (hb3.mono (by omega)))

set_option maxRecDepth 100000 in
set_option maxHeartbeats 3200000 in
theorem code18_in_same (m : B.Mv) (hm : m.Ok) (hi : m.inn = true) (hs : m.sh = 0) (w : World) :
    Calls Tryz.prog 90 #[.agg (mrF m)] w (CodeOut m.code w) := by
 have hb8 : m.b ≤ 8 := by have := hm.be; have := hm.e8; omega
 have he8 : m.e ≤ 8 := hm.e8
 have hbe : m.b < m.e := hm.be
 have h0 := hm.sh0
 have h1 := hm.sh1
 have hsh : m.way - 8 * (m.b : Int) = m.sh := by unfold B.Mv.sh; rw [hi]; rfl
 have hwb : m.way = m.sh + 8 * (m.b : Int) := by omega
 have HCD : Hid (m.code = ([⟨2, m.t, m.v, 0, 0⟩] ++ []) ++ [⟨13, m.t, m.b, (m.e : Int) - (m.b : Int), m.bits⟩]) := by
  refine Lib.hid ?_
  unfold B.Mv.code
  rw [if_pos hi]
  unfold B.Mv.mid
  rw [if_neg (by omega), if_neg (by omega)]
  rfl
 obtain ⟨w0, hw0⟩ : ∃ w0, w.alloc (.cells (mrF m) 137) = w0 := ⟨_, rfl⟩
 have hz0 : w0.heap.size = w.heap.size + 1 := by rw [← hw0]; simp
 have HM0 : Hid (R8 w0 w.heap.size (mrF m)) := by rw [← hw0]; exact Lib.hid (R8.new (mrF m) rfl w rfl)
 have HB0 : Hid (Below w.heap.size w w0) := by rw [← hw0]; exact Lib.hid ((Below.refl _ _).alloc (Nat.le_refl _) _)
 obtain ⟨w1, hw1⟩ : ∃ w1, w0.alloc (.cells #[.int .i64 2, .int .i64 m.t, .int .i64 m.v, .int .i64 0, .int .u64 0] 24) = w1 := ⟨_, rfl⟩
 have HB01 : Hid (Below w0.heap.size w0 w1) := by rw [← hw1]; exact Lib.hid ((Below.refl w0.heap.size w0).alloc (Nat.le_refl _) _)
 have HM1 : Hid (R8 w1 w.heap.size (mrF m)) := Lib.hid (CellsAt.below HM0.out HB01.out (by omega))
 have HB1 : Hid (Below w.heap.size w w1) := Lib.hid (HB0.out.trans (HB01.out.mono (by omega)))
 have HO1 : Hid (OwnP w1 (w.heap.size + 1) (some ⟨w.heap.size + 1, 0, none⟩) 1 1 [⟨2, m.t, m.v, 0, 0⟩]) := by rw [← hw1]; exact Lib.hid (fown_one ⟨2, m.t, m.v, 0, 0⟩ _ _ _ (by omega) (by omega))
 have hz1 : w.heap.size + 1 ≤ w1.heap.size := by have := HB01.out.size; omega
 have c0 : w0.cell? ⟨w.heap.size, 0, none⟩ = some (.bool true) := by have := CellsAt.cell HM0.out (j := 0) (by omega); rw [this]; show some (Value.bool m.inn) = _; rw [hi]
 have c1 : w0.cell? ⟨w.heap.size, 1, none⟩ = some (.int .i64 m.t) := CellsAt.cell HM0.out (j := 1) (by omega)
 have c2 : w0.cell? ⟨w.heap.size, 2, none⟩ = some (.int .i64 m.v) := CellsAt.cell HM0.out (j := 2) (by omega)
 have c3 : w0.cell? ⟨w.heap.size, 3, none⟩ = some (.int .i64 m.way) := CellsAt.cell HM0.out (j := 3) (by omega)
 have c4 : w0.cell? ⟨w.heap.size, 4, none⟩ = some (.int .i64 m.b) := CellsAt.cell HM0.out (j := 4) (by omega)
 have c5 : w0.cell? ⟨w.heap.size, 5, none⟩ = some (.int .i64 ((m.e : Int) - (m.b : Int))) := CellsAt.cell HM0.out (j := 5) (by omega)
 have c6 : w0.cell? ⟨w.heap.size, 6, none⟩ = some (.int .u64 m.bits) := CellsAt.cell HM0.out (j := 6) (by omega)
 have k1 : IntKind.i64.wrap (8 * (m.b : Int)) = 8 * (m.b : Int) := IntWalk.i64_in _ (by omega)
 have k2 : IntKind.i64.wrap (m.way - 8 * (m.b : Int)) = m.sh := by rw [hsh]; exact IntWalk.i64_in _ (by omega)
 have k3 : IntKind.i64.wrap ((m.e : Int) - (m.b : Int)) = (m.e : Int) - (m.b : Int) := IntWalk.i64_in _ (by omega)
 have k4 : IntKind.i64.wrap (-m.sh) = -m.sh := IntWalk.i64_in _ (by omega)
 clear hm hb8 he8 hbe h0 h1 hsh hwb
 have HI := Lib.hid hi
 clear hi
 rw [hs] at k2
 clear hs k4
 rw [HCD.out]
 clear HCD
 have d0 : w1.cell? ⟨w.heap.size, 0, none⟩ = some (.bool true) := by have := CellsAt.cell HM1.out (j := 0) (by omega); rw [this]; show some (Value.bool m.inn) = _; rw [HI.out]
 have d1 : w1.cell? ⟨w.heap.size, 1, none⟩ = some (.int .i64 m.t) := CellsAt.cell HM1.out (j := 1) (by omega)
 have d2 : w1.cell? ⟨w.heap.size, 2, none⟩ = some (.int .i64 m.v) := CellsAt.cell HM1.out (j := 2) (by omega)
 have d3 : w1.cell? ⟨w.heap.size, 3, none⟩ = some (.int .i64 m.way) := CellsAt.cell HM1.out (j := 3) (by omega)
 have d4 : w1.cell? ⟨w.heap.size, 4, none⟩ = some (.int .i64 m.b) := CellsAt.cell HM1.out (j := 4) (by omega)
 have d5 : w1.cell? ⟨w.heap.size, 5, none⟩ = some (.int .i64 ((m.e : Int) - (m.b : Int))) := CellsAt.cell HM1.out (j := 5) (by omega)
 have d6 : w1.cell? ⟨w.heap.size, 6, none⟩ = some (.int .u64 m.bits) := CellsAt.cell HM1.out (j := 6) (by omega)
 go_enter Tryz.func90, Tryz.ntmps90
 go_upto_region 1 with fail
 clear hw0
 go_upto_region 10 with fail
 clear hw1 c0 c1 c2 c3 c4 c5 c6
 go_wp2_with (at_builtin; refine app_ins rfl _ _ rfl (w.heap.size + 1) rfl HO1.out rfl (by omega) hz1 ?_; intro ao3 cp3 w3 hown3 hb3 hsz3)
 go_ret
 exact CodeOut.mk (by simpa using hown3) (HB1.out.trans (hb3.mono (by omega)))

set_option maxRecDepth 100000 in
set_option maxHeartbeats 3200000 in
theorem code18_out_up (m : B.Mv) (hm : m.Ok) (hi : m.inn = false) (hs : 0 < m.sh) (w : World) :
    Calls Tryz.prog 90 #[.agg (mrF m)] w (CodeOut m.code w) := by
 have hb8 : m.b ≤ 8 := by have := hm.be; have := hm.e8; omega
 have he8 : m.e ≤ 8 := hm.e8
 have hbe : m.b < m.e := hm.be
 have h0 := hm.sh0
 have h1 := hm.sh1
 have hsh : m.way + 8 * (m.b : Int) = m.sh := by unfold B.Mv.sh; rw [hi]; rfl
 have hwb : m.way = m.sh - 8 * (m.b : Int) := by omega
 have HCD : Hid (m.code = ([⟨9, m.t, m.b, (m.e : Int) - (m.b : Int), 0⟩, ⟨8, m.t, 0, 0, m.bits⟩] ++ [⟨6, m.t, 0, m.sh, 0⟩]) ++ [⟨4, m.v, m.t, 0, 0⟩]) := by
  refine Lib.hid ?_
  unfold B.Mv.code
  rw [if_neg (by rw [hi]; decide)]
  unfold B.Mv.mid
  rw [if_pos hs]
  rfl
 obtain ⟨w0, hw0⟩ : ∃ w0, w.alloc (.cells (mrF m) 137) = w0 := ⟨_, rfl⟩
 have hz0 : w0.heap.size = w.heap.size + 1 := by rw [← hw0]; simp
 have HM0 : Hid (R8 w0 w.heap.size (mrF m)) := by rw [← hw0]; exact Lib.hid (R8.new (mrF m) rfl w rfl)
 have HB0 : Hid (Below w.heap.size w w0) := by rw [← hw0]; exact Lib.hid ((Below.refl _ _).alloc (Nat.le_refl _) _)
 obtain ⟨w1, hw1⟩ : ∃ w1, (w0.alloc (.cells #[.int .i64 2, .int .i64 m.t, .int .i64 m.v, .int .i64 0, .int .u64 0] 24)).alloc (.cells #[.int .i64 9, .int .i64 m.t, .int .i64 m.b, .int .i64 ((m.e : Int) - (m.b : Int)), .int .u64 0, .int .i64 8, .int .i64 m.t, .int .i64 0, .int .i64 0, .int .u64 m.bits] 24) = w1 := ⟨_, rfl⟩
 have HB01 : Hid (Below w0.heap.size w0 w1) := by rw [← hw1]; exact Lib.hid (((Below.refl w0.heap.size w0).alloc (Nat.le_refl _) _).alloc (by simp) _)
 have HM1 : Hid (R8 w1 w.heap.size (mrF m)) := Lib.hid (CellsAt.below HM0.out HB01.out (by omega))
 have HB1 : Hid (Below w.heap.size w w1) := Lib.hid (HB0.out.trans (HB01.out.mono (by omega)))
 have HO1 : Hid (OwnP w1 (w.heap.size + 1) (some ⟨w.heap.size + 1 + 1, 0, none⟩) 2 2 [⟨9, m.t, m.b, (m.e : Int) - (m.b : Int), 0⟩, ⟨8, m.t, 0, 0, m.bits⟩]) := by rw [← hw1]; exact Lib.hid (fown_two ⟨9, m.t, m.b, (m.e : Int) - (m.b : Int), 0⟩ ⟨8, m.t, 0, 0, m.bits⟩ _ _ _ (by simp; omega) (by simp; omega))
 have hz1 : w.heap.size + 1 ≤ w1.heap.size := by have := HB01.out.size; omega
 have c0 : w0.cell? ⟨w.heap.size, 0, none⟩ = some (.bool false) := by have := CellsAt.cell HM0.out (j := 0) (by omega); rw [this]; show some (Value.bool m.inn) = _; rw [hi]
 have c1 : w0.cell? ⟨w.heap.size, 1, none⟩ = some (.int .i64 m.t) := CellsAt.cell HM0.out (j := 1) (by omega)
 have c2 : w0.cell? ⟨w.heap.size, 2, none⟩ = some (.int .i64 m.v) := CellsAt.cell HM0.out (j := 2) (by omega)
 have c3 : w0.cell? ⟨w.heap.size, 3, none⟩ = some (.int .i64 m.way) := CellsAt.cell HM0.out (j := 3) (by omega)
 have c4 : w0.cell? ⟨w.heap.size, 4, none⟩ = some (.int .i64 m.b) := CellsAt.cell HM0.out (j := 4) (by omega)
 have c5 : w0.cell? ⟨w.heap.size, 5, none⟩ = some (.int .i64 ((m.e : Int) - (m.b : Int))) := CellsAt.cell HM0.out (j := 5) (by omega)
 have c6 : w0.cell? ⟨w.heap.size, 6, none⟩ = some (.int .u64 m.bits) := CellsAt.cell HM0.out (j := 6) (by omega)
 have k1 : IntKind.i64.wrap (8 * (m.b : Int)) = 8 * (m.b : Int) := IntWalk.i64_in _ (by omega)
 have k2' : IntKind.i64.wrap (m.way - 8 * (m.b : Int)) = m.way - 8 * (m.b : Int) := IntWalk.i64_in _ (by omega)
 have k2 : IntKind.i64.wrap (m.way + 8 * (m.b : Int)) = m.sh := by rw [hsh]; exact IntWalk.i64_in _ (by omega)
 have k3 : IntKind.i64.wrap ((m.e : Int) - (m.b : Int)) = (m.e : Int) - (m.b : Int) := IntWalk.i64_in _ (by omega)
 have k4 : IntKind.i64.wrap (-m.sh) = -m.sh := IntWalk.i64_in _ (by omega)
 have q1 : decide (m.sh < 0) = false := by simp; omega
 clear hm hb8 he8 hbe h0 h1 hsh hwb
 have HI := Lib.hid hi
 clear hi
 obtain ⟨s, hss⟩ : ∃ s, m.sh = s := ⟨_, rfl⟩
 rw [hss] at k2 k4 HCD q1 hs
 clear hss
 rw [HCD.out]
 clear HCD
 have d0 : w1.cell? ⟨w.heap.size, 0, none⟩ = some (.bool false) := by have := CellsAt.cell HM1.out (j := 0) (by omega); rw [this]; show some (Value.bool m.inn) = _; rw [HI.out]
 have d1 : w1.cell? ⟨w.heap.size, 1, none⟩ = some (.int .i64 m.t) := CellsAt.cell HM1.out (j := 1) (by omega)
 have d2 : w1.cell? ⟨w.heap.size, 2, none⟩ = some (.int .i64 m.v) := CellsAt.cell HM1.out (j := 2) (by omega)
 have d3 : w1.cell? ⟨w.heap.size, 3, none⟩ = some (.int .i64 m.way) := CellsAt.cell HM1.out (j := 3) (by omega)
 have d4 : w1.cell? ⟨w.heap.size, 4, none⟩ = some (.int .i64 m.b) := CellsAt.cell HM1.out (j := 4) (by omega)
 have d5 : w1.cell? ⟨w.heap.size, 5, none⟩ = some (.int .i64 ((m.e : Int) - (m.b : Int))) := CellsAt.cell HM1.out (j := 5) (by omega)
 have d6 : w1.cell? ⟨w.heap.size, 6, none⟩ = some (.int .u64 m.bits) := CellsAt.cell HM1.out (j := 6) (by omega)
 go_enter Tryz.func90, Tryz.ntmps90
 go_upto_region 1 with fail
 clear hw0
 go_upto_region 7 with fail
 clear hw1 c0 c1 c2 c3 c4 c5 c6
 go_upto_region 10 with (at_builtin; refine app_ins rfl _ _ rfl (w.heap.size + 1) rfl HO1.out rfl (by omega) hz1 ?_; intro ao2 cp2 w2 hown2 hb2 hsz2)
 have HO2 := Lib.hid hown2
 have HB2 : Hid (Below w.heap.size w w2) := Lib.hid (HB1.out.trans (hb2.mono (by omega)))
 have HM2 : Hid (R8 w2 w.heap.size (mrF m)) := Lib.hid (CellsAt.below HM1.out hb2 (by omega))
 have hz2 : w.heap.size + 1 ≤ w2.heap.size := by omega
 clear hown2 hb2 d0 d1 d2 d3 d4 d5 d6 HM1 HO1 HB1
 have d0 : w2.cell? ⟨w.heap.size, 0, none⟩ = some (.bool false) := by have := CellsAt.cell HM2.out (j := 0) (by omega); rw [this]; show some (Value.bool m.inn) = _; rw [HI.out]
 have d1 : w2.cell? ⟨w.heap.size, 1, none⟩ = some (.int .i64 m.t) := CellsAt.cell HM2.out (j := 1) (by omega)
 have d2 : w2.cell? ⟨w.heap.size, 2, none⟩ = some (.int .i64 m.v) := CellsAt.cell HM2.out (j := 2) (by omega)
 have d3 : w2.cell? ⟨w.heap.size, 3, none⟩ = some (.int .i64 m.way) := CellsAt.cell HM2.out (j := 3) (by omega)
 have d4 : w2.cell? ⟨w.heap.size, 4, none⟩ = some (.int .i64 m.b) := CellsAt.cell HM2.out (j := 4) (by omega)
 have d5 : w2.cell? ⟨w.heap.size, 5, none⟩ = some (.int .i64 ((m.e : Int) - (m.b : Int))) := CellsAt.cell HM2.out (j := 5) (by omega)
 have d6 : w2.cell? ⟨w.heap.size, 6, none⟩ = some (.int .u64 m.bits) := CellsAt.cell HM2.out (j := 6) (by omega)
 go_wp2_with (at_builtin; refine app_ins rfl _ _ rfl (w.heap.size + 1) rfl HO2.out rfl (by omega) hz2 ?_; intro ao3 cp3 w3 hown3 hb3 hsz3)
 go_ret
 exact CodeOut.mk hown3 (HB2.out.trans (hb3.mono (by omega)))

set_option maxRecDepth 100000 in
set_option maxHeartbeats 3200000 in
theorem code18_out_down (m : B.Mv) (hm : m.Ok) (hi : m.inn = false) (hs : m.sh < 0) (w : World) :
    Calls Tryz.prog 90 #[.agg (mrF m)] w (CodeOut m.code w) := by
 have hb8 : m.b ≤ 8 := by have := hm.be; have := hm.e8; omega
 have he8 : m.e ≤ 8 := hm.e8
 have hbe : m.b < m.e := hm.be
 have h0 := hm.sh0
 have h1 := hm.sh1
 have hsh : m.way + 8 * (m.b : Int) = m.sh := by unfold B.Mv.sh; rw [hi]; rfl
 have hwb : m.way = m.sh - 8 * (m.b : Int) := by omega
 have HCD : Hid (m.code = ([⟨9, m.t, m.b, (m.e : Int) - (m.b : Int), 0⟩, ⟨8, m.t, 0, 0, m.bits⟩] ++ [⟨7, m.t, 0, -m.sh, 0⟩]) ++ [⟨4, m.v, m.t, 0, 0⟩]) := by
  refine Lib.hid ?_
  unfold B.Mv.code
  rw [if_neg (by rw [hi]; decide)]
  unfold B.Mv.mid
  rw [if_neg (by omega), if_pos hs]
  rfl
 obtain ⟨w0, hw0⟩ : ∃ w0, w.alloc (.cells (mrF m) 137) = w0 := ⟨_, rfl⟩
 have hz0 : w0.heap.size = w.heap.size + 1 := by rw [← hw0]; simp
 have HM0 : Hid (R8 w0 w.heap.size (mrF m)) := by rw [← hw0]; exact Lib.hid (R8.new (mrF m) rfl w rfl)
 have HB0 : Hid (Below w.heap.size w w0) := by rw [← hw0]; exact Lib.hid ((Below.refl _ _).alloc (Nat.le_refl _) _)
 obtain ⟨w1, hw1⟩ : ∃ w1, (w0.alloc (.cells #[.int .i64 2, .int .i64 m.t, .int .i64 m.v, .int .i64 0, .int .u64 0] 24)).alloc (.cells #[.int .i64 9, .int .i64 m.t, .int .i64 m.b, .int .i64 ((m.e : Int) - (m.b : Int)), .int .u64 0, .int .i64 8, .int .i64 m.t, .int .i64 0, .int .i64 0, .int .u64 m.bits] 24) = w1 := ⟨_, rfl⟩
 have HB01 : Hid (Below w0.heap.size w0 w1) := by rw [← hw1]; exact Lib.hid (((Below.refl w0.heap.size w0).alloc (Nat.le_refl _) _).alloc (by simp) _)
 have HM1 : Hid (R8 w1 w.heap.size (mrF m)) := Lib.hid (CellsAt.below HM0.out HB01.out (by omega))
 have HB1 : Hid (Below w.heap.size w w1) := Lib.hid (HB0.out.trans (HB01.out.mono (by omega)))
 have HO1 : Hid (OwnP w1 (w.heap.size + 1) (some ⟨w.heap.size + 1 + 1, 0, none⟩) 2 2 [⟨9, m.t, m.b, (m.e : Int) - (m.b : Int), 0⟩, ⟨8, m.t, 0, 0, m.bits⟩]) := by rw [← hw1]; exact Lib.hid (fown_two ⟨9, m.t, m.b, (m.e : Int) - (m.b : Int), 0⟩ ⟨8, m.t, 0, 0, m.bits⟩ _ _ _ (by simp; omega) (by simp; omega))
 have hz1 : w.heap.size + 1 ≤ w1.heap.size := by have := HB01.out.size; omega
 have c0 : w0.cell? ⟨w.heap.size, 0, none⟩ = some (.bool false) := by have := CellsAt.cell HM0.out (j := 0) (by omega); rw [this]; show some (Value.bool m.inn) = _; rw [hi]
 have c1 : w0.cell? ⟨w.heap.size, 1, none⟩ = some (.int .i64 m.t) := CellsAt.cell HM0.out (j := 1) (by omega)
 have c2 : w0.cell? ⟨w.heap.size, 2, none⟩ = some (.int .i64 m.v) := CellsAt.cell HM0.out (j := 2) (by omega)
 have c3 : w0.cell? ⟨w.heap.size, 3, none⟩ = some (.int .i64 m.way) := CellsAt.cell HM0.out (j := 3) (by omega)
 have c4 : w0.cell? ⟨w.heap.size, 4, none⟩ = some (.int .i64 m.b) := CellsAt.cell HM0.out (j := 4) (by omega)
 have c5 : w0.cell? ⟨w.heap.size, 5, none⟩ = some (.int .i64 ((m.e : Int) - (m.b : Int))) := CellsAt.cell HM0.out (j := 5) (by omega)
 have c6 : w0.cell? ⟨w.heap.size, 6, none⟩ = some (.int .u64 m.bits) := CellsAt.cell HM0.out (j := 6) (by omega)
 have k1 : IntKind.i64.wrap (8 * (m.b : Int)) = 8 * (m.b : Int) := IntWalk.i64_in _ (by omega)
 have k2' : IntKind.i64.wrap (m.way - 8 * (m.b : Int)) = m.way - 8 * (m.b : Int) := IntWalk.i64_in _ (by omega)
 have k2 : IntKind.i64.wrap (m.way + 8 * (m.b : Int)) = m.sh := by rw [hsh]; exact IntWalk.i64_in _ (by omega)
 have k3 : IntKind.i64.wrap ((m.e : Int) - (m.b : Int)) = (m.e : Int) - (m.b : Int) := IntWalk.i64_in _ (by omega)
 have k4 : IntKind.i64.wrap (-m.sh) = -m.sh := IntWalk.i64_in _ (by omega)
 have q1 : decide (0 < m.sh) = false := by simp; omega
 clear hm hb8 he8 hbe h0 h1 hsh hwb
 have HI := Lib.hid hi
 clear hi
 obtain ⟨s, hss⟩ : ∃ s, m.sh = s := ⟨_, rfl⟩
 rw [hss] at k2 k4 HCD q1 hs
 clear hss
 rw [HCD.out]
 clear HCD
 have d0 : w1.cell? ⟨w.heap.size, 0, none⟩ = some (.bool false) := by have := CellsAt.cell HM1.out (j := 0) (by omega); rw [this]; show some (Value.bool m.inn) = _; rw [HI.out]
 have d1 : w1.cell? ⟨w.heap.size, 1, none⟩ = some (.int .i64 m.t) := CellsAt.cell HM1.out (j := 1) (by omega)
 have d2 : w1.cell? ⟨w.heap.size, 2, none⟩ = some (.int .i64 m.v) := CellsAt.cell HM1.out (j := 2) (by omega)
 have d3 : w1.cell? ⟨w.heap.size, 3, none⟩ = some (.int .i64 m.way) := CellsAt.cell HM1.out (j := 3) (by omega)
 have d4 : w1.cell? ⟨w.heap.size, 4, none⟩ = some (.int .i64 m.b) := CellsAt.cell HM1.out (j := 4) (by omega)
 have d5 : w1.cell? ⟨w.heap.size, 5, none⟩ = some (.int .i64 ((m.e : Int) - (m.b : Int))) := CellsAt.cell HM1.out (j := 5) (by omega)
 have d6 : w1.cell? ⟨w.heap.size, 6, none⟩ = some (.int .u64 m.bits) := CellsAt.cell HM1.out (j := 6) (by omega)
 go_enter Tryz.func90, Tryz.ntmps90
 go_upto_region 1 with fail
 clear hw0
 go_upto_region 9 with fail
 clear hw1 c0 c1 c2 c3 c4 c5 c6
 go_upto_region 10 with (at_builtin; refine app_ins rfl _ _ rfl (w.heap.size + 1) rfl HO1.out rfl (by omega) hz1 ?_; intro ao2 cp2 w2 hown2 hb2 hsz2)
 have HO2 := Lib.hid hown2
 have HB2 : Hid (Below w.heap.size w w2) := Lib.hid (HB1.out.trans (hb2.mono (by omega)))
 have HM2 : Hid (R8 w2 w.heap.size (mrF m)) := Lib.hid (CellsAt.below HM1.out hb2 (by omega))
 have hz2 : w.heap.size + 1 ≤ w2.heap.size := by omega
 clear hown2 hb2 d0 d1 d2 d3 d4 d5 d6 HM1 HO1 HB1
 have d0 : w2.cell? ⟨w.heap.size, 0, none⟩ = some (.bool false) := by have := CellsAt.cell HM2.out (j := 0) (by omega); rw [this]; show some (Value.bool m.inn) = _; rw [HI.out]
 have d1 : w2.cell? ⟨w.heap.size, 1, none⟩ = some (.int .i64 m.t) := CellsAt.cell HM2.out (j := 1) (by omega)
 have d2 : w2.cell? ⟨w.heap.size, 2, none⟩ = some (.int .i64 m.v) := CellsAt.cell HM2.out (j := 2) (by omega)
 have d3 : w2.cell? ⟨w.heap.size, 3, none⟩ = some (.int .i64 m.way) := CellsAt.cell HM2.out (j := 3) (by omega)
 have d4 : w2.cell? ⟨w.heap.size, 4, none⟩ = some (.int .i64 m.b) := CellsAt.cell HM2.out (j := 4) (by omega)
 have d5 : w2.cell? ⟨w.heap.size, 5, none⟩ = some (.int .i64 ((m.e : Int) - (m.b : Int))) := CellsAt.cell HM2.out (j := 5) (by omega)
 have d6 : w2.cell? ⟨w.heap.size, 6, none⟩ = some (.int .u64 m.bits) := CellsAt.cell HM2.out (j := 6) (by omega)
 go_wp2_with (at_builtin; refine app_ins rfl _ _ rfl (w.heap.size + 1) rfl HO2.out rfl (by omega) hz2 ?_; intro ao3 cp3 w3 hown3 hb3 hsz3)
 go_ret
 exact CodeOut.mk hown3 (HB2.out.trans (hb3.mono (by omega)))

set_option maxRecDepth 100000 in
set_option maxHeartbeats 3200000 in
theorem code18_out_same (m : B.Mv) (hm : m.Ok) (hi : m.inn = false) (hs : m.sh = 0) (w : World) :
    Calls Tryz.prog 90 #[.agg (mrF m)] w (CodeOut m.code w) := by
 have hb8 : m.b ≤ 8 := by have := hm.be; have := hm.e8; omega
 have he8 : m.e ≤ 8 := hm.e8
 have hbe : m.b < m.e := hm.be
 have h0 := hm.sh0
 have h1 := hm.sh1
 have hsh : m.way + 8 * (m.b : Int) = m.sh := by unfold B.Mv.sh; rw [hi]; rfl
 have hwb : m.way = m.sh - 8 * (m.b : Int) := by omega
 have HCD : Hid (m.code = ([⟨9, m.t, m.b, (m.e : Int) - (m.b : Int), 0⟩, ⟨8, m.t, 0, 0, m.bits⟩] ++ []) ++ [⟨4, m.v, m.t, 0, 0⟩]) := by
  refine Lib.hid ?_
  unfold B.Mv.code
  rw [if_neg (by rw [hi]; decide)]
  unfold B.Mv.mid
  rw [if_neg (by omega), if_neg (by omega)]
  rfl
 obtain ⟨w0, hw0⟩ : ∃ w0, w.alloc (.cells (mrF m) 137) = w0 := ⟨_, rfl⟩
 have hz0 : w0.heap.size = w.heap.size + 1 := by rw [← hw0]; simp
 have HM0 : Hid (R8 w0 w.heap.size (mrF m)) := by rw [← hw0]; exact Lib.hid (R8.new (mrF m) rfl w rfl)
 have HB0 : Hid (Below w.heap.size w w0) := by rw [← hw0]; exact Lib.hid ((Below.refl _ _).alloc (Nat.le_refl _) _)
 obtain ⟨w1, hw1⟩ : ∃ w1, (w0.alloc (.cells #[.int .i64 2, .int .i64 m.t, .int .i64 m.v, .int .i64 0, .int .u64 0] 24)).alloc (.cells #[.int .i64 9, .int .i64 m.t, .int .i64 m.b, .int .i64 ((m.e : Int) - (m.b : Int)), .int .u64 0, .int .i64 8, .int .i64 m.t, .int .i64 0, .int .i64 0, .int .u64 m.bits] 24) = w1 := ⟨_, rfl⟩
 have HB01 : Hid (Below w0.heap.size w0 w1) := by rw [← hw1]; exact Lib.hid (((Below.refl w0.heap.size w0).alloc (Nat.le_refl _) _).alloc (by simp) _)
 have HM1 : Hid (R8 w1 w.heap.size (mrF m)) := Lib.hid (CellsAt.below HM0.out HB01.out (by omega))
 have HB1 : Hid (Below w.heap.size w w1) := Lib.hid (HB0.out.trans (HB01.out.mono (by omega)))
 have HO1 : Hid (OwnP w1 (w.heap.size + 1) (some ⟨w.heap.size + 1 + 1, 0, none⟩) 2 2 [⟨9, m.t, m.b, (m.e : Int) - (m.b : Int), 0⟩, ⟨8, m.t, 0, 0, m.bits⟩]) := by rw [← hw1]; exact Lib.hid (fown_two ⟨9, m.t, m.b, (m.e : Int) - (m.b : Int), 0⟩ ⟨8, m.t, 0, 0, m.bits⟩ _ _ _ (by simp; omega) (by simp; omega))
 have hz1 : w.heap.size + 1 ≤ w1.heap.size := by have := HB01.out.size; omega
 have c0 : w0.cell? ⟨w.heap.size, 0, none⟩ = some (.bool false) := by have := CellsAt.cell HM0.out (j := 0) (by omega); rw [this]; show some (Value.bool m.inn) = _; rw [hi]
 have c1 : w0.cell? ⟨w.heap.size, 1, none⟩ = some (.int .i64 m.t) := CellsAt.cell HM0.out (j := 1) (by omega)
 have c2 : w0.cell? ⟨w.heap.size, 2, none⟩ = some (.int .i64 m.v) := CellsAt.cell HM0.out (j := 2) (by omega)
 have c3 : w0.cell? ⟨w.heap.size, 3, none⟩ = some (.int .i64 m.way) := CellsAt.cell HM0.out (j := 3) (by omega)
 have c4 : w0.cell? ⟨w.heap.size, 4, none⟩ = some (.int .i64 m.b) := CellsAt.cell HM0.out (j := 4) (by omega)
 have c5 : w0.cell? ⟨w.heap.size, 5, none⟩ = some (.int .i64 ((m.e : Int) - (m.b : Int))) := CellsAt.cell HM0.out (j := 5) (by omega)
 have c6 : w0.cell? ⟨w.heap.size, 6, none⟩ = some (.int .u64 m.bits) := CellsAt.cell HM0.out (j := 6) (by omega)
 have k1 : IntKind.i64.wrap (8 * (m.b : Int)) = 8 * (m.b : Int) := IntWalk.i64_in _ (by omega)
 have k2' : IntKind.i64.wrap (m.way - 8 * (m.b : Int)) = m.way - 8 * (m.b : Int) := IntWalk.i64_in _ (by omega)
 have k2 : IntKind.i64.wrap (m.way + 8 * (m.b : Int)) = m.sh := by rw [hsh]; exact IntWalk.i64_in _ (by omega)
 have k3 : IntKind.i64.wrap ((m.e : Int) - (m.b : Int)) = (m.e : Int) - (m.b : Int) := IntWalk.i64_in _ (by omega)
 have k4 : IntKind.i64.wrap (-m.sh) = -m.sh := IntWalk.i64_in _ (by omega)
 clear hm hb8 he8 hbe h0 h1 hsh hwb
 have HI := Lib.hid hi
 clear hi
 rw [hs] at k2
 clear hs k4
 rw [HCD.out]
 clear HCD
 have d0 : w1.cell? ⟨w.heap.size, 0, none⟩ = some (.bool false) := by have := CellsAt.cell HM1.out (j := 0) (by omega); rw [this]; show some (Value.bool m.inn) = _; rw [HI.out]
 have d1 : w1.cell? ⟨w.heap.size, 1, none⟩ = some (.int .i64 m.t) := CellsAt.cell HM1.out (j := 1) (by omega)
 have d2 : w1.cell? ⟨w.heap.size, 2, none⟩ = some (.int .i64 m.v) := CellsAt.cell HM1.out (j := 2) (by omega)
 have d3 : w1.cell? ⟨w.heap.size, 3, none⟩ = some (.int .i64 m.way) := CellsAt.cell HM1.out (j := 3) (by omega)
 have d4 : w1.cell? ⟨w.heap.size, 4, none⟩ = some (.int .i64 m.b) := CellsAt.cell HM1.out (j := 4) (by omega)
 have d5 : w1.cell? ⟨w.heap.size, 5, none⟩ = some (.int .i64 ((m.e : Int) - (m.b : Int))) := CellsAt.cell HM1.out (j := 5) (by omega)
 have d6 : w1.cell? ⟨w.heap.size, 6, none⟩ = some (.int .u64 m.bits) := CellsAt.cell HM1.out (j := 6) (by omega)
 go_enter Tryz.func90, Tryz.ntmps90
 go_upto_region 1 with fail
 clear hw0
 go_upto_region 10 with fail
 clear hw1 c0 c1 c2 c3 c4 c5 c6
 go_wp2_with (at_builtin; refine app_ins rfl _ _ rfl (w.heap.size + 1) rfl HO1.out rfl (by omega) hz1 ?_; intro ao3 cp3 w3 hown3 hb3 hsz3)
 go_ret
 exact CodeOut.mk (by simpa using hown3) (HB1.out.trans (hb3.mono (by omega)))

theorem code18_any (m : B.Mv) (hm : m.Ok) (w : World) : Calls Tryz.prog 90 #[.agg (mrF m)] w (CodeOut m.code w) := by
 cases hi : m.inn with
 | true =>
  by_cases h1 : 0 < m.sh
  ·exact code18_in_up m hm hi h1 w
  ·by_cases h2 : m.sh < 0
   ·exact code18_in_down m hm hi h2 w
   ·exact code18_in_same m hm hi (by omega) w
 | false =>
  by_cases h1 : 0 < m.sh
  ·exact code18_out_up m hm hi h1 w
  ·by_cases h2 : m.sh < 0
   ·exact code18_out_down m hm hi h2 w
   ·exact code18_out_same m hm hi (by omega) w

end Code
end Go.Proofs.YtmpeipdeablkdaaGreatDoor
