/- 'VerifyKnown': the document's examples, and the limits from both sides: the closed statement holds. No condition beyond the card's own: the listed variables hold what the program's text lays. -/
import Derived.Test.YthafeadfpfibkaaGreatDoorFrame
import Derived.Test.YthafeadfpfibkaaGreatDoorDoor
import Derived.Test.YthafeadfpfibkaaGreatDoorFactKnown
import Derived.Test.YthafeadfpfibkaaGreatDoorKnownB
namespace Go.Proofs.YthafeadfpfibkaaGreatDoor
open Go.ChangeShapes Go.WideShapes Go.ChangeAt Go.RowKit Go.Proofs.YthafeadfpfibkaaGreatDoor.Code

namespace LawKnown

attribute [local go_sem ↓] Go.wp_at_zero Go.wp_at_succ

/-- the examples' instructions -/
def Eight (X : Nat) (w : World) : Prop := BoxV 15 0 0 0 0 X w ∧ BoxV 16 1 0 0 0 (X + 1) w ∧ BoxV 0 0 0 0 0 (X + 2) w ∧ BoxV 1 1 0 0 1 (X + 3) w ∧ BoxV 18 0 0 1 0 (X + 4) w ∧ BoxV 19 0 0 1 5 (X + 5) w ∧ BoxV 11 1 1 2 0 (X + 6) w ∧ BoxV 15 0 1 0 0 (X + 7) w
theorem eight_stable (X : Nat) : Stable (Eight X) := fun _ _ h hb => by
  obtain ⟨h0, h1, h2, h3, h4, h5, h6, h7⟩ := h
  exact ⟨h0.below hb h0.lt, h1.below hb h1.lt, h2.below hb h2.lt, h3.below hb h3.lt, h4.below hb h4.lt, h5.below hb h5.lt, h6.below hb h6.lt, h7.below hb h7.lt⟩
theorem eight_new (w : World) : Eight w.heap.size ((((((((w.alloc (.cells #[.int .i64 15, .int .i64 0, .int .i64 0, .int .i64 0, .int .u64 0] 38)).alloc (.cells #[.int .i64 16, .int .i64 1, .int .i64 0, .int .i64 0, .int .u64 0] 38)).alloc (.cells #[.int .i64 0, .int .i64 0, .int .i64 0, .int .i64 0, .int .u64 0] 38)).alloc (.cells #[.int .i64 1, .int .i64 1, .int .i64 0, .int .i64 0, .int .u64 1] 38)).alloc (.cells #[.int .i64 18, .int .i64 0, .int .i64 0, .int .i64 1, .int .u64 0] 38)).alloc (.cells #[.int .i64 19, .int .i64 0, .int .i64 0, .int .i64 1, .int .u64 5] 38)).alloc (.cells #[.int .i64 11, .int .i64 1, .int .i64 1, .int .i64 2, .int .u64 0] 38)).alloc (.cells #[.int .i64 15, .int .i64 0, .int .i64 1, .int .i64 0, .int .u64 0] 38)) :=
  ⟨(((((((boxV_new 15 0 0 0 0 _ _ _ (by simp)).more _).more _).more _).more _).more _).more _).more _,
   ((((((boxV_new 16 1 0 0 0 _ _ _ (by simp)).more _).more _).more _).more _).more _).more _,
   (((((boxV_new 0 0 0 0 0 _ _ _ (by simp)).more _).more _).more _).more _).more _,
   ((((boxV_new 1 1 0 0 1 _ _ _ (by simp)).more _).more _).more _).more _,
   (((boxV_new 18 0 0 1 0 _ _ _ (by simp)).more _).more _).more _,
   ((boxV_new 19 0 0 1 5 _ _ _ (by simp)).more _).more _,
   (boxV_new 11 1 1 2 0 _ _ _ (by simp)).more _,
   boxV_new 15 0 1 0 0 _ _ _ (by simp)⟩
theorem eight_below (w : World) : Below w.heap.size w ((((((((w.alloc (.cells #[.int .i64 15, .int .i64 0, .int .i64 0, .int .i64 0, .int .u64 0] 38)).alloc (.cells #[.int .i64 16, .int .i64 1, .int .i64 0, .int .i64 0, .int .u64 0] 38)).alloc (.cells #[.int .i64 0, .int .i64 0, .int .i64 0, .int .i64 0, .int .u64 0] 38)).alloc (.cells #[.int .i64 1, .int .i64 1, .int .i64 0, .int .i64 0, .int .u64 1] 38)).alloc (.cells #[.int .i64 18, .int .i64 0, .int .i64 0, .int .i64 1, .int .u64 0] 38)).alloc (.cells #[.int .i64 19, .int .i64 0, .int .i64 0, .int .i64 1, .int .u64 5] 38)).alloc (.cells #[.int .i64 11, .int .i64 1, .int .i64 1, .int .i64 2, .int .u64 0] 38)).alloc (.cells #[.int .i64 15, .int .i64 0, .int .i64 1, .int .i64 0, .int .u64 0] 38)) := (((((((((Below.refl w.heap.size w).alloc (Nat.le_refl _) (.cells #[.int .i64 15, .int .i64 0, .int .i64 0, .int .i64 0, .int .u64 0] 38)).alloc (by simp) (.cells #[.int .i64 16, .int .i64 1, .int .i64 0, .int .i64 0, .int .u64 0] 38)).alloc (by simp; omega) (.cells #[.int .i64 0, .int .i64 0, .int .i64 0, .int .i64 0, .int .u64 0] 38)).alloc (by simp; omega) (.cells #[.int .i64 1, .int .i64 1, .int .i64 0, .int .i64 0, .int .u64 1] 38)).alloc (by simp; omega) (.cells #[.int .i64 18, .int .i64 0, .int .i64 0, .int .i64 1, .int .u64 0] 38)).alloc (by simp; omega) (.cells #[.int .i64 19, .int .i64 0, .int .i64 0, .int .i64 1, .int .u64 5] 38)).alloc (by simp; omega) (.cells #[.int .i64 11, .int .i64 1, .int .i64 1, .int .i64 2, .int .u64 0] 38)).alloc (by simp; omega) (.cells #[.int .i64 15, .int .i64 0, .int .i64 1, .int .i64 0, .int .u64 0] 38))

theorem told_none_keep (S : World → Prop) (hS : Stable S) (no at_ : Int) {w : World} (hR : Ready w) (h3 : S w) (hB : atB (progEr [] 2 1) no 0 at_ = true) :
    Calls Tryz.prog 33 #[.slice none 0 0, .int .i64 no, .int .i64 at_] w (fun e w' => e = .returned (.bool true) ∧ Below w.heap.size w w' ∧ S w') :=
  (told_none no at_ hR hB).mono fun _ _ ⟨he, hb⟩ => ⟨he, hb, hS _ _ h3 hb⟩

theorem er_arg (ps : List B.Ins) (size slots : Int) (h : size < 0 ∨ 8 < size ∨ slots < 0 ∨ 64 < slots) : progEr ps size slots = .plain 1 := by
  unfold progEr B.program
  rw [if_pos h]
  rfl
theorem plainB1 : plainB (.plain 1) 1 = true := by decide
set_option maxRecDepth 100000 in
set_option maxHeartbeats 3200000 in
theorem law  (w : World) (hR : Ready w) :
    Calls Tryz.prog 13 #[] w (BoolOut true w) := by
  have HR := Lib.hid hR
  clear hR
  have HE0 := Lib.hid (eight_new w)
  have HB0 := Lib.hid (eight_below w)
  go_enter Tryz.func13, Tryz.ntmps13
  go_wp2_with fail
  refine (told_none_keep (Eight w.heap.size) (eight_stable _) 0 0 (HR.out.below HB0.out (Nat.le_refl _)) HE0.out (by decide +kernel)).mono ?_
  rintro e w1 ⟨rfl, hb1, hs1⟩
  have HB1 := Lib.hid (HB0.out.trans (hb1.mono HB0.out.size))
  have HE1 := Lib.hid hs1
  obtain ⟨⟨a0, a1, a2, a3, a4⟩, ⟨b0, b1, b2, b3, b4⟩, ⟨c0, c1, c2, c3, c4⟩, ⟨d0, d1, d2, d3, d4⟩, ⟨e0, e1, e2, e3, e4⟩, ⟨f0, f1, f2, f3, f4⟩, ⟨g0, g1, g2, g3, g4⟩, ⟨h0, h1, h2, h3, h4⟩⟩ := hs1
  clear hb1
  go_wp2_with fail
  refine (told_keep (Eight w.heap.size) (eight_stable _) [⟨0, 0, 0, 0, 0⟩] 0 0 (by simp) (HR.out.below HB1.out (Nat.le_refl _)) HE1.out (by rfl) rfl (by decide +kernel) (by decide +kernel) (by decide)).mono ?_
  rintro e w2 ⟨rfl, hb2, hs2⟩
  have HB2 := Lib.hid (HB1.out.trans (hb2.mono HB1.out.size))
  have HE2 := Lib.hid hs2
  clear a0 a1 a2 a3 a4 b0 b1 b2 b3 b4 c0 c1 c2 c3 c4 d0 d1 d2 d3 d4 e0 e1 e2 e3 e4 f0 f1 f2 f3 f4 g0 g1 g2 g3 g4 h0 h1 h2 h3 h4
  obtain ⟨⟨a0, a1, a2, a3, a4⟩, ⟨b0, b1, b2, b3, b4⟩, ⟨c0, c1, c2, c3, c4⟩, ⟨d0, d1, d2, d3, d4⟩, ⟨e0, e1, e2, e3, e4⟩, ⟨f0, f1, f2, f3, f4⟩, ⟨g0, g1, g2, g3, g4⟩, ⟨h0, h1, h2, h3, h4⟩⟩ := hs2
  clear hb2
  go_wp2_with fail
  refine (told_keep (Eight w.heap.size) (eight_stable _) [⟨18, 0, 0, 0, 0⟩] 0 0 (by simp) (HR.out.below HB2.out (Nat.le_refl _)) HE2.out (by rfl) rfl (by decide +kernel) (by decide +kernel) (by decide)).mono ?_
  rintro e w3 ⟨rfl, hb3, hs3⟩
  have HB3 := Lib.hid (HB2.out.trans (hb3.mono HB2.out.size))
  have HE3 := Lib.hid hs3
  clear a0 a1 a2 a3 a4 b0 b1 b2 b3 b4 c0 c1 c2 c3 c4 d0 d1 d2 d3 d4 e0 e1 e2 e3 e4 f0 f1 f2 f3 f4 g0 g1 g2 g3 g4 h0 h1 h2 h3 h4
  obtain ⟨⟨a0, a1, a2, a3, a4⟩, ⟨b0, b1, b2, b3, b4⟩, ⟨c0, c1, c2, c3, c4⟩, ⟨d0, d1, d2, d3, d4⟩, ⟨e0, e1, e2, e3, e4⟩, ⟨f0, f1, f2, f3, f4⟩, ⟨g0, g1, g2, g3, g4⟩, ⟨h0, h1, h2, h3, h4⟩⟩ := hs3
  clear hb3
  go_wp2_with fail
  refine (told_keep (Eight w.heap.size) (eight_stable _) [⟨1, 1, 0, 0, 1⟩, ⟨11, 1, 1, 2, 0⟩] 16 1 (by simp) (HR.out.below HB3.out (Nat.le_refl _)) HE3.out (by rfl) rfl (by decide +kernel) (by decide +kernel) (by decide)).mono ?_
  rintro e w4 ⟨rfl, hb4, hs4⟩
  have HB4 := Lib.hid (HB3.out.trans (hb4.mono HB3.out.size))
  have HE4 := Lib.hid hs4
  clear a0 a1 a2 a3 a4 b0 b1 b2 b3 b4 c0 c1 c2 c3 c4 d0 d1 d2 d3 d4 e0 e1 e2 e3 e4 f0 f1 f2 f3 f4 g0 g1 g2 g3 g4 h0 h1 h2 h3 h4
  obtain ⟨⟨a0, a1, a2, a3, a4⟩, ⟨b0, b1, b2, b3, b4⟩, ⟨c0, c1, c2, c3, c4⟩, ⟨d0, d1, d2, d3, d4⟩, ⟨e0, e1, e2, e3, e4⟩, ⟨f0, f1, f2, f3, f4⟩, ⟨g0, g1, g2, g3, g4⟩, ⟨h0, h1, h2, h3, h4⟩⟩ := hs4
  clear hb4
  go_wp2_with fail
  refine (told_keep (Eight w.heap.size) (eight_stable _) [⟨11, 1, 1, 2, 0⟩] 16 0 (by simp) (HR.out.below HB4.out (Nat.le_refl _)) HE4.out (by rfl) rfl (by decide +kernel) (by decide +kernel) (by decide)).mono ?_
  rintro e w5 ⟨rfl, hb5, hs5⟩
  have HB5 := Lib.hid (HB4.out.trans (hb5.mono HB4.out.size))
  have HE5 := Lib.hid hs5
  clear a0 a1 a2 a3 a4 b0 b1 b2 b3 b4 c0 c1 c2 c3 c4 d0 d1 d2 d3 d4 e0 e1 e2 e3 e4 f0 f1 f2 f3 f4 g0 g1 g2 g3 g4 h0 h1 h2 h3 h4
  obtain ⟨⟨a0, a1, a2, a3, a4⟩, ⟨b0, b1, b2, b3, b4⟩, ⟨c0, c1, c2, c3, c4⟩, ⟨d0, d1, d2, d3, d4⟩, ⟨e0, e1, e2, e3, e4⟩, ⟨f0, f1, f2, f3, f4⟩, ⟨g0, g1, g2, g3, g4⟩, ⟨h0, h1, h2, h3, h4⟩⟩ := hs5
  clear hb5
  go_wp2_with fail
  refine (told_keep (Eight w.heap.size) (eight_stable _) [⟨15, 0, 1, 0, 0⟩] 18 0 (by simp) (HR.out.below HB5.out (Nat.le_refl _)) HE5.out (by rfl) rfl (by decide +kernel) (by decide +kernel) (by decide)).mono ?_
  rintro e w6 ⟨rfl, hb6, hs6⟩
  have HB6 := Lib.hid (HB5.out.trans (hb6.mono HB5.out.size))
  have HE6 := Lib.hid hs6
  clear a0 a1 a2 a3 a4 b0 b1 b2 b3 b4 c0 c1 c2 c3 c4 d0 d1 d2 d3 d4 e0 e1 e2 e3 e4 f0 f1 f2 f3 f4 g0 g1 g2 g3 g4 h0 h1 h2 h3 h4
  obtain ⟨⟨a0, a1, a2, a3, a4⟩, ⟨b0, b1, b2, b3, b4⟩, ⟨c0, c1, c2, c3, c4⟩, ⟨d0, d1, d2, d3, d4⟩, ⟨e0, e1, e2, e3, e4⟩, ⟨f0, f1, f2, f3, f4⟩, ⟨g0, g1, g2, g3, g4⟩, ⟨h0, h1, h2, h3, h4⟩⟩ := hs6
  clear hb6
  go_wp2_with fail
  refine (told_keep (Eight w.heap.size) (eight_stable _) [⟨18, 0, 0, 1, 0⟩] 16 0 (by simp) (HR.out.below HB6.out (Nat.le_refl _)) HE6.out (by rfl) rfl (by decide +kernel) (by decide +kernel) (by decide)).mono ?_
  rintro e w7 ⟨rfl, hb7, hs7⟩
  have HB7 := Lib.hid (HB6.out.trans (hb7.mono HB6.out.size))
  have HE7 := Lib.hid hs7
  clear a0 a1 a2 a3 a4 b0 b1 b2 b3 b4 c0 c1 c2 c3 c4 d0 d1 d2 d3 d4 e0 e1 e2 e3 e4 f0 f1 f2 f3 f4 g0 g1 g2 g3 g4 h0 h1 h2 h3 h4
  obtain ⟨⟨a0, a1, a2, a3, a4⟩, ⟨b0, b1, b2, b3, b4⟩, ⟨c0, c1, c2, c3, c4⟩, ⟨d0, d1, d2, d3, d4⟩, ⟨e0, e1, e2, e3, e4⟩, ⟨f0, f1, f2, f3, f4⟩, ⟨g0, g1, g2, g3, g4⟩, ⟨h0, h1, h2, h3, h4⟩⟩ := hs7
  clear hb7
  go_wp2_with fail
  refine (told_keep (Eight w.heap.size) (eight_stable _) [⟨0, 0, 0, 0, 0⟩, ⟨18, 0, 0, 1, 0⟩, ⟨0, 0, 0, 0, 0⟩] 0 0 (by simp) (HR.out.below HB7.out (Nat.le_refl _)) HE7.out (by rfl) rfl (by decide +kernel) (by decide +kernel) (by decide)).mono ?_
  rintro e w8 ⟨rfl, hb8, hs8⟩
  have HB8 := Lib.hid (HB7.out.trans (hb8.mono HB7.out.size))
  have HE8 := Lib.hid hs8
  clear a0 a1 a2 a3 a4 b0 b1 b2 b3 b4 c0 c1 c2 c3 c4 d0 d1 d2 d3 d4 e0 e1 e2 e3 e4 f0 f1 f2 f3 f4 g0 g1 g2 g3 g4 h0 h1 h2 h3 h4
  obtain ⟨⟨a0, a1, a2, a3, a4⟩, ⟨b0, b1, b2, b3, b4⟩, ⟨c0, c1, c2, c3, c4⟩, ⟨d0, d1, d2, d3, d4⟩, ⟨e0, e1, e2, e3, e4⟩, ⟨f0, f1, f2, f3, f4⟩, ⟨g0, g1, g2, g3, g4⟩, ⟨h0, h1, h2, h3, h4⟩⟩ := hs8
  clear hb8
  go_wp2_with fail
  refine (told_keep (Eight w.heap.size) (eight_stable _) [⟨15, 0, 0, 0, 0⟩, ⟨19, 0, 0, 1, 5⟩, ⟨1, 1, 0, 0, 1⟩, ⟨16, 1, 0, 0, 0⟩] 21 3 (by simp) (HR.out.below HB8.out (Nat.le_refl _)) HE8.out (by rfl) rfl (by decide +kernel) (by decide +kernel) (by decide)).mono ?_
  rintro e w9 ⟨rfl, hb9, hs9⟩
  have HB9 := Lib.hid (HB8.out.trans (hb9.mono HB8.out.size))
  have HE9 := Lib.hid hs9
  clear a0 a1 a2 a3 a4 b0 b1 b2 b3 b4 c0 c1 c2 c3 c4 d0 d1 d2 d3 d4 e0 e1 e2 e3 e4 f0 f1 f2 f3 f4 g0 g1 g2 g3 g4 h0 h1 h2 h3 h4
  obtain ⟨⟨a0, a1, a2, a3, a4⟩, ⟨b0, b1, b2, b3, b4⟩, ⟨c0, c1, c2, c3, c4⟩, ⟨d0, d1, d2, d3, d4⟩, ⟨e0, e1, e2, e3, e4⟩, ⟨f0, f1, f2, f3, f4⟩, ⟨g0, g1, g2, g3, g4⟩, ⟨h0, h1, h2, h3, h4⟩⟩ := hs9
  clear hb9
  go_wp2_with fail
  refine (told_keep (Eight w.heap.size) (eight_stable _) [⟨1, 1, 0, 0, 1⟩, ⟨15, 0, 0, 0, 0⟩, ⟨19, 0, 0, 1, 5⟩, ⟨1, 1, 0, 0, 1⟩, ⟨16, 1, 0, 0, 0⟩] 0 0 (by simp) (HR.out.below HB9.out (Nat.le_refl _)) HE9.out (by rfl) rfl (by decide +kernel) (by decide +kernel) (by decide)).mono ?_
  rintro e w10 ⟨rfl, hb10, hs10⟩
  have HB10 := Lib.hid (HB9.out.trans (hb10.mono HB9.out.size))
  have HE10 := Lib.hid hs10
  clear a0 a1 a2 a3 a4 b0 b1 b2 b3 b4 c0 c1 c2 c3 c4 d0 d1 d2 d3 d4 e0 e1 e2 e3 e4 f0 f1 f2 f3 f4 g0 g1 g2 g3 g4 h0 h1 h2 h3 h4
  obtain ⟨⟨a0, a1, a2, a3, a4⟩, ⟨b0, b1, b2, b3, b4⟩, ⟨c0, c1, c2, c3, c4⟩, ⟨d0, d1, d2, d3, d4⟩, ⟨e0, e1, e2, e3, e4⟩, ⟨f0, f1, f2, f3, f4⟩, ⟨g0, g1, g2, g3, g4⟩, ⟨h0, h1, h2, h3, h4⟩⟩ := hs10
  clear hb10
  go_wp2_with fail
  refine (told_keep (Eight w.heap.size) (eight_stable _) [⟨18, 0, 0, 1, 0⟩, ⟨16, 1, 0, 0, 0⟩, ⟨0, 0, 0, 0, 0⟩] 0 0 (by simp) (HR.out.below HB10.out (Nat.le_refl _)) HE10.out (by rfl) rfl (by decide +kernel) (by decide +kernel) (by decide)).mono ?_
  rintro e w11 ⟨rfl, hb11, hs11⟩
  have HB11 := Lib.hid (HB10.out.trans (hb11.mono HB10.out.size))
  have HE11 := Lib.hid hs11
  clear a0 a1 a2 a3 a4 b0 b1 b2 b3 b4 c0 c1 c2 c3 c4 d0 d1 d2 d3 d4 e0 e1 e2 e3 e4 f0 f1 f2 f3 f4 g0 g1 g2 g3 g4 h0 h1 h2 h3 h4
  obtain ⟨⟨a0, a1, a2, a3, a4⟩, ⟨b0, b1, b2, b3, b4⟩, ⟨c0, c1, c2, c3, c4⟩, ⟨d0, d1, d2, d3, d4⟩, ⟨e0, e1, e2, e3, e4⟩, ⟨f0, f1, f2, f3, f4⟩, ⟨g0, g1, g2, g3, g4⟩, ⟨h0, h1, h2, h3, h4⟩⟩ := hs11
  clear hb11
  go_wp2_with fail
  refine (told_keep (Eight w.heap.size) (eight_stable _) [⟨0, 0, 0, 0, 0⟩, ⟨16, 1, 0, 0, 0⟩] 0 0 (by simp) (HR.out.below HB11.out (Nat.le_refl _)) HE11.out (by rfl) rfl (by decide +kernel) (by decide +kernel) (by decide)).mono ?_
  rintro e w12 ⟨rfl, hb12, hs12⟩
  have HB12 := Lib.hid (HB11.out.trans (hb12.mono HB11.out.size))
  have HE12 := Lib.hid hs12
  clear a0 a1 a2 a3 a4 b0 b1 b2 b3 b4 c0 c1 c2 c3 c4 d0 d1 d2 d3 d4 e0 e1 e2 e3 e4 f0 f1 f2 f3 f4 g0 g1 g2 g3 g4 h0 h1 h2 h3 h4
  obtain ⟨⟨a0, a1, a2, a3, a4⟩, ⟨b0, b1, b2, b3, b4⟩, ⟨c0, c1, c2, c3, c4⟩, ⟨d0, d1, d2, d3, d4⟩, ⟨e0, e1, e2, e3, e4⟩, ⟨f0, f1, f2, f3, f4⟩, ⟨g0, g1, g2, g3, g4⟩, ⟨h0, h1, h2, h3, h4⟩⟩ := hs12
  clear hb12
  go_wp2_with fail
  refine (told_keep (Eight w.heap.size) (eight_stable _) [⟨2, 0, 0, 1, 0⟩] 20 0 (by simp) (HR.out.below HB12.out (Nat.le_refl _)) HE12.out (by rfl) rfl (by decide +kernel) (by decide +kernel) (by decide)).mono ?_
  rintro e w13 ⟨rfl, hb13, hs13⟩
  have HB13 := Lib.hid (HB12.out.trans (hb13.mono HB12.out.size))
  have HE13 := Lib.hid hs13
  clear a0 a1 a2 a3 a4 b0 b1 b2 b3 b4 c0 c1 c2 c3 c4 d0 d1 d2 d3 d4 e0 e1 e2 e3 e4 f0 f1 f2 f3 f4 g0 g1 g2 g3 g4 h0 h1 h2 h3 h4
  obtain ⟨⟨a0, a1, a2, a3, a4⟩, ⟨b0, b1, b2, b3, b4⟩, ⟨c0, c1, c2, c3, c4⟩, ⟨d0, d1, d2, d3, d4⟩, ⟨e0, e1, e2, e3, e4⟩, ⟨f0, f1, f2, f3, f4⟩, ⟨g0, g1, g2, g3, g4⟩, ⟨h0, h1, h2, h3, h4⟩⟩ := hs13
  clear hb13
  go_wp2_with fail
  clear a0 a1 a2 a3 a4 b0 b1 b2 b3 b4 c0 c1 c2 c3 c4 d0 d1 d2 d3 d4 e0 e1 e2 e3 e4 f0 f1 f2 f3 f4 g0 g1 g2 g3 g4 h0 h1 h2 h3 h4
  refine (program_er none 0 0 [] (9) 0 _ (progAt_nil _) (fun y hy => by cases hy) (HR.out.tabs.below HB13.out (Nat.le_refl _)) (by omega)).mono ?_
  rintro e w14 ⟨rfl, hb14⟩
  rw [er_arg [] (9) 0 (by decide)]
  have HB14 := Lib.hid (HB13.out.trans (hb14.mono HB13.out.size))
  clear hb14
  go_wp2_with fail
  refine (plain_any (.plain 1) ⟨by omega, by omega⟩ 1 _ (HR.out.err.below HB14.out (Nat.le_refl _))).mono ?_
  rintro e w15 ⟨rfl, hb15⟩
  rw [plainB1]
  have HB15 := Lib.hid (HB14.out.trans (hb15.mono HB14.out.size))
  clear hb15
  go_wp2_with fail
  refine (program_er none 0 0 [] (0) 65 _ (progAt_nil _) (fun y hy => by cases hy) (HR.out.tabs.below HB15.out (Nat.le_refl _)) (by omega)).mono ?_
  rintro e w16 ⟨rfl, hb16⟩
  rw [er_arg [] (0) 65 (by decide)]
  have HB16 := Lib.hid (HB15.out.trans (hb16.mono HB15.out.size))
  clear hb16
  go_wp2_with fail
  refine (plain_any (.plain 1) ⟨by omega, by omega⟩ 1 _ (HR.out.err.below HB16.out (Nat.le_refl _))).mono ?_
  rintro e w17 ⟨rfl, hb17⟩
  rw [plainB1]
  have HB17 := Lib.hid (HB16.out.trans (hb17.mono HB16.out.size))
  clear hb17
  go_wp2_with fail
  refine (program_er none 0 0 [] (-1) 0 _ (progAt_nil _) (fun y hy => by cases hy) (HR.out.tabs.below HB17.out (Nat.le_refl _)) (by omega)).mono ?_
  rintro e w18 ⟨rfl, hb18⟩
  rw [er_arg [] (-1) 0 (by decide)]
  have HB18 := Lib.hid (HB17.out.trans (hb18.mono HB17.out.size))
  clear hb18
  go_wp2_with fail
  refine (plain_any (.plain 1) ⟨by omega, by omega⟩ 1 _ (HR.out.err.below HB18.out (Nat.le_refl _))).mono ?_
  rintro e w19 ⟨rfl, hb19⟩
  rw [plainB1]
  have HB19 := Lib.hid (HB18.out.trans (hb19.mono HB18.out.size))
  clear hb19
  go_wp2_with fail
  refine (program_yes none 0 0 [] 8 64 _ (progAt_nil _) (fun y hy => by cases hy) (HR.out.tabs.below HB19.out (Nat.le_refl _)) (by omega) (B.mayRun_nil (by omega) (by omega))).mono ?_
  rintro e w20 ⟨rfl, hb20⟩
  have HB20 := Lib.hid (HB19.out.trans (hb20.mono HB19.out.size))
  clear hb20
  go_wp2_with fail
  refine (readingK_any _ (HR.out.below HB20.out (Nat.le_refl _))).mono ?_
  rintro e w21 ⟨rfl, hb21⟩
  have HB21 := Lib.hid (HB20.out.trans (hb21.mono HB20.out.size))
  clear hb21
  go_wp2_with fail
  refine (long_any _ (HR.out.below HB21.out (Nat.le_refl _))).mono ?_
  rintro e w22 ⟨rfl, hb22⟩
  have HB22 := Lib.hid (HB21.out.trans (hb22.mono HB21.out.size))
  clear hb22
  go_wp2_with fail
  go_ret
  exact ⟨rfl, HB22.out⟩

set_option maxRecDepth 100000 in
theorem lifted (os : Os) (started : os.Started) (H : Type) (enc : TypeId × Value → H) :
    ReturnsInHanded {} Tryz.checked os 13 .any (fun w args => (Rows.verifyKnownSpec.pre enc Tryz.prog Tryz.f13 Rows.verifyKnownRow.domain false w args ∧ laidMetH Tryz.prog laid2 w) ∧ sizedMet enc Tryz.prog Tryz.f13 (OpenSpec.ofChange Rows.verifyKnownSpec) false w args)
      (Rows.verifyKnownSpec.post enc Tryz.prog Tryz.f13 false true false false) := by
  refine returnsInHanded_of_change_and (C := Tryz.checked) (X := fun w _ => laidMetH Tryz.prog laid2 w) (fun _ _ _ hh h => h.of_heap hh) own started (by kernel_rfl) Tryz.func13
    (ChangeSpec.witness_shaped (enc := enc) (C := Tryz.checked) (os := os) (X := fun w _ => laidMetH Tryz.prog laid2 w) false (World.doorLaid Tryz.prog 93 os) #[] 8 rfl (World.shaped_of_RefB (by kernel_rfl) (by kernel_rfl)) (by kernel_rfl) (by kernel_rfl) (by kernel_rfl) (door_met2 os _)) ?_
  intro W base args ds gs before hval0 hW hcnd hsz0 hL _
  have hval : ∀ (j : Nat) t v, Tryz.f13.params[j]? = some t → args[j]? = some v → Value.okWide Tryz.prog W .any base t v := hval0
  have hsz : (DataW.weightsEach Tryz.prog (Tryz.f13.params.toList ++ Rows.verifyKnownSpec.plain.varTypes Tryz.prog) (ds ++ gs)).all (· ≤ reachBytes) = true := hsz0
  have hW' := hW
  obtain ⟨p, q, hA0, hV, rfl, hfz, hnd⟩ := hW
  have hA : DataW.TrodAll enc Tryz.prog W 0 (fun _ => true) true Tryz.f13.params.toList args.toList ds p := hA0
  rw [Tryz.params13] at hA hval hsz
  have hA1 := hA
  obtain ⟨hargs, rfl, rfl⟩ := trodAll_nil hA
  obtain rfl : args = #[] := by cases args; simp_all
  obtain ⟨rfl, rfl⟩ := trodVars_none hV
  have lt0 := trodAll_lt _ _ _ _ hA1
  clear hA0 hval0 hsz0
  refine (law  W  (ready_laid hL) ).mono fun e W' ⟨he, bel⟩ => ?_
  subst he
  exact ⟨_, rfl, _, _, _, [], _, [], hW', trodAll_mk1 (shut_bool Tryz.underlying4 _), below_trodAll laidOut bel _ _ _ _ (by kernel_rfl) hA1 lt0, rfl, bel.frame _, fun h => by cases h⟩

theorem said : Rows.VerifyKnownSaid :=
  OpenClaim.holds_of_wide 13 Tryz.f13 rfl rfl rfl rfl rfl rfl rfl ⟨rfl, rfl, rfl, rfl, rfl⟩ rfl rfl rfl rfl rfl found Tryz.func13 joined instanced wrapped
    (fun os started H enc _ => lifted os started H enc)

theorem plain (f : FuncId) (fn : Func) (hf : Tryz.pinned.checked.prog.funcNamed "busbar/busbarlaw13.VerifyKnown" = some f) (hfn : Tryz.pinned.checked.prog.funcs[f]? = some fn) :
    true = Tryz.pinned.checked.prog.looks [] ∧ ∀ (j : Nat) t, fn.params[j]? = some t → Tryz.pinned.checked.prog.wantsStandIn t = false := by
  obtain rfl : f = 13 := Option.some.inj (found.symm.trans hf) |>.symm
  obtain rfl : fn = Tryz.f13 := (Option.some.inj (Tryz.func13.symm.trans hfn)).symm
  refine ⟨by kernel_rfl, fun j t ht => ?_⟩
  rw [Tryz.params13] at ht
  have hm : t ∈ ([] : List TypeId) := by simpa using Array.mem_of_getElem? ht
  have hall : (([] : List TypeId).all fun u => !Tryz.prog.wantsStandIn u) = true := by kernel_rfl
  exact (show Tryz.prog.wantsStandIn t = false by simpa using List.all_eq_true.1 hall t hm)

theorem card : Rows.VerifyKnownCardSaid :=
  Claim7.holds_tied_plain_at .later [] _ _ _ _ said (fun _ h => by cases h) (by kernel_rfl) (fun _ h => by cases h) verifyKnown_row_tie rfl ⟨rfl, rfl⟩ (by kernel_rfl) rfl plain (by kernel_rfl)
#print axioms card

end LawKnown
end Go.Proofs.YthafeadfpfibkaaGreatDoor
