/- busbarlaw13: each operation reads, and writes, what the document says. -/
import Derived.Test.YthafeadfpfibkaaGreatDoorKnownA
namespace Go.Proofs.YthafeadfpfibkaaGreatDoor
open Go.RowKit

namespace Code

attribute [local go_sem ↓] Go.wp_at_zero Go.wp_at_succ

/-- three instructions in blocks of their own, of which the first is of the round -/
def Three (o a b n : Int) (X : Nat) (w : World) : Prop := BoxV o a b n 0 X w ∧ BoxV 1 2 0 0 0 (X + 1) w ∧ BoxV 16 2 0 0 0 (X + 2) w

theorem three_stable (o a b n : Int) (X : Nat) : Stable (Three o a b n X) := fun _ _ h hb => ⟨h.1.below hb h.1.lt, h.2.1.below hb h.2.1.lt, h.2.2.below hb h.2.2.lt⟩

theorem three_new {o a b n : Int} {X : Nat} {w : World} (h : BoxV o a b n 0 X w) (hX : X + 1 = w.heap.size) : Three o a b n X ((w.alloc (.cells #[.int .i64 1, .int .i64 2, .int .i64 0, .int .i64 0, .int .u64 0] 38)).alloc (.cells #[.int .i64 16, .int .i64 2, .int .i64 0, .int .i64 0, .int .u64 0] 38)) :=
  ⟨(h.more _).more _, (boxV_new 1 2 0 0 0 w _ _ hX).more _, boxV_new 16 2 0 0 0 _ _ _ (by simp; omega)⟩

set_option maxRecDepth 100000 in
set_option maxHeartbeats 12800000 in
theorem readingK_any (w : World) (hR : Ready w) : Calls Tryz.prog 34 #[] w (BoolOut true w) := by
  have HR := Lib.hid hR
  clear hR
  go_enter Tryz.func34, Tryz.ntmps34
  go_wp2_with fail
  go_loopw [1] (fun i wr => ∃ k : Nat, k ≤ 20 ∧ i = .int .i64 k ∧ Below w.heap.size w wr) (fun i _ => 20 - (intOf i).toNat)
  case atStart => exact ⟨0, by omega, rfl, Below.refl _ _⟩
  case round =>
    obtain ⟨k, hk, rfl, hb⟩ := hrel
    have HB := Lib.hid hb
    have hsz := hb.size
    clear hb
    by_cases hlt : k < 20
    · obtain h : k = 0 ∨ k = 1 ∨ k = 2 ∨ k = 3 ∨ k = 4 ∨ k = 5 ∨ k = 6 ∨ k = 7 ∨ k = 8 ∨ k = 9 ∨ k = 10 ∨ k = 11 ∨ k = 12 ∨ k = 13 ∨ k = 14 ∨ k = 15 ∨ k = 16 ∨ k = 17 ∨ k = 18 ∨ k = 19 := by omega
      rcases h with rfl | rfl | rfl | rfl | rfl | rfl | rfl | rfl | rfl | rfl | rfl | rfl | rfl | rfl | rfl | rfl | rfl | rfl | rfl | rfl
      · have HB0 := Lib.hid ((((Below.refl wr.heap.size wr).alloc (Nat.le_refl _) (.cells #[.int .i64 0, .int .i64 0, .int .i64 0, .int .i64 0, .int .u64 0] 38)).alloc (by simp) (.cells #[.int .i64 1, .int .i64 2, .int .i64 0, .int .i64 0, .int .u64 0] 38)).alloc (by simp; omega) (.cells #[.int .i64 16, .int .i64 2, .int .i64 0, .int .i64 0, .int .u64 0] 38))
        have HS0 : Hid (Three 0 0 0 0 wr.heap.size _) := three_new (boxV_new 0 0 0 0 0 wr 38 _ rfl) (by simp)
        go_wp2_with fail
        refine (told_keep (Three 0 0 0 0 wr.heap.size) (three_stable 0 0 0 0 wr.heap.size) [⟨0, 0, 0, 0, 0⟩] 0 0 (by simp) (HR.out.below (HB.out.trans (HB0.out.mono hsz)) (Nat.le_refl _)) HS0.out (by rfl) rfl (by decide +kernel) (by decide +kernel) (by decide)).mono ?_
        rintro e w1 ⟨rfl, hb1, hs1⟩
        have HB1 := Lib.hid (HB0.out.trans (hb1.mono (by simp; omega)))
        have HS1 := Lib.hid hs1
        obtain ⟨⟨x0, x1, x2, x3, x4⟩, ⟨y0, y1, y2, y3, y4⟩, ⟨z0, z1, z2, z3, z4⟩⟩ := hs1
        clear hb1
        go_wp2_with fail
        refine (told_keep (Three 0 0 0 0 wr.heap.size) (three_stable 0 0 0 0 wr.heap.size) [⟨1, 2, 0, 0, 0⟩, ⟨0, 0, 0, 0, 0⟩, ⟨16, 2, 0, 0, 0⟩] 0 0 (by simp) (HR.out.below (HB.out.trans (HB1.out.mono hsz)) (Nat.le_refl _)) HS1.out (by rfl) rfl (by decide +kernel) (by decide +kernel) (by decide)).mono ?_
        rintro e w2 ⟨rfl, hb2, hs2⟩
        have HB2 := Lib.hid (HB1.out.trans (hb2.mono HB1.out.size))
        have HS2 := Lib.hid hs2
        obtain ⟨⟨x0, x1, x2, x3, x4⟩, ⟨y0, y1, y2, y3, y4⟩, ⟨z0, z1, z2, z3, z4⟩⟩ := hs2
        clear hb2
        go_wp2_with fail
        clear x0 x1 x2 x3 x4 y0 y1 y2 y3 y4 z0 z1 z2 z3 z4
        refine (told_keep (Three 0 0 0 0 wr.heap.size) (three_stable 0 0 0 0 wr.heap.size) [⟨0, 0, 0, 0, 0⟩, ⟨16, 2, 0, 0, 0⟩] 0 1 (by simp) (HR.out.below (HB.out.trans (HB2.out.mono hsz)) (Nat.le_refl _)) HS2.out (by rfl) rfl (by decide +kernel) (by decide +kernel) (by decide)).mono ?_
        rintro e w3 ⟨rfl, hb3, hs3⟩
        have HB3 := Lib.hid (HB2.out.trans (hb3.mono HB2.out.size))
        have HS3 := Lib.hid hs3
        obtain ⟨⟨x0, x1, x2, x3, x4⟩, ⟨y0, y1, y2, y3, y4⟩, ⟨z0, z1, z2, z3, z4⟩⟩ := hs3
        clear hb3
        go_wp2_with fail
        go_roundw
        case rel => exact ⟨1, by omega, rfl, HB.out.trans (HB3.out.mono hsz)⟩
        case measure => simp [intOf]
      · have HB0 := Lib.hid ((((Below.refl wr.heap.size wr).alloc (Nat.le_refl _) (.cells #[.int .i64 1, .int .i64 2, .int .i64 0, .int .i64 0, .int .u64 0] 38)).alloc (by simp) (.cells #[.int .i64 1, .int .i64 2, .int .i64 0, .int .i64 0, .int .u64 0] 38)).alloc (by simp; omega) (.cells #[.int .i64 16, .int .i64 2, .int .i64 0, .int .i64 0, .int .u64 0] 38))
        have HS0 : Hid (Three 1 2 0 0 wr.heap.size _) := three_new (boxV_new 1 2 0 0 0 wr 38 _ rfl) (by simp)
        go_wp2_with fail
        refine (told_keep (Three 1 2 0 0 wr.heap.size) (three_stable 1 2 0 0 wr.heap.size) [⟨1, 2, 0, 0, 0⟩] 0 0 (by simp) (HR.out.below (HB.out.trans (HB0.out.mono hsz)) (Nat.le_refl _)) HS0.out (by rfl) rfl (by decide +kernel) (by decide +kernel) (by decide)).mono ?_
        rintro e w1 ⟨rfl, hb1, hs1⟩
        have HB1 := Lib.hid (HB0.out.trans (hb1.mono (by simp; omega)))
        have HS1 := Lib.hid hs1
        obtain ⟨⟨x0, x1, x2, x3, x4⟩, ⟨y0, y1, y2, y3, y4⟩, ⟨z0, z1, z2, z3, z4⟩⟩ := hs1
        clear hb1
        go_wp2_with fail
        refine (told_keep (Three 1 2 0 0 wr.heap.size) (three_stable 1 2 0 0 wr.heap.size) [⟨1, 2, 0, 0, 0⟩, ⟨1, 2, 0, 0, 0⟩, ⟨16, 2, 0, 0, 0⟩] 0 0 (by simp) (HR.out.below (HB.out.trans (HB1.out.mono hsz)) (Nat.le_refl _)) HS1.out (by rfl) rfl (by decide +kernel) (by decide +kernel) (by decide)).mono ?_
        rintro e w2 ⟨rfl, hb2, hs2⟩
        have HB2 := Lib.hid (HB1.out.trans (hb2.mono HB1.out.size))
        have HS2 := Lib.hid hs2
        obtain ⟨⟨x0, x1, x2, x3, x4⟩, ⟨y0, y1, y2, y3, y4⟩, ⟨z0, z1, z2, z3, z4⟩⟩ := hs2
        clear hb2
        go_wp2_with fail
        clear x0 x1 x2 x3 x4 y0 y1 y2 y3 y4 z0 z1 z2 z3 z4
        refine (told_keep (Three 1 2 0 0 wr.heap.size) (three_stable 1 2 0 0 wr.heap.size) [⟨1, 2, 0, 0, 0⟩, ⟨16, 2, 0, 0, 0⟩] 0 1 (by simp) (HR.out.below (HB.out.trans (HB2.out.mono hsz)) (Nat.le_refl _)) HS2.out (by rfl) rfl (by decide +kernel) (by decide +kernel) (by decide)).mono ?_
        rintro e w3 ⟨rfl, hb3, hs3⟩
        have HB3 := Lib.hid (HB2.out.trans (hb3.mono HB2.out.size))
        have HS3 := Lib.hid hs3
        obtain ⟨⟨x0, x1, x2, x3, x4⟩, ⟨y0, y1, y2, y3, y4⟩, ⟨z0, z1, z2, z3, z4⟩⟩ := hs3
        clear hb3
        go_wp2_with fail
        go_roundw
        case rel => exact ⟨2, by omega, rfl, HB.out.trans (HB3.out.mono hsz)⟩
        case measure => simp [intOf]
      · have HB0 := Lib.hid ((((Below.refl wr.heap.size wr).alloc (Nat.le_refl _) (.cells #[.int .i64 2, .int .i64 2, .int .i64 2, .int .i64 0, .int .u64 0] 38)).alloc (by simp) (.cells #[.int .i64 1, .int .i64 2, .int .i64 0, .int .i64 0, .int .u64 0] 38)).alloc (by simp; omega) (.cells #[.int .i64 16, .int .i64 2, .int .i64 0, .int .i64 0, .int .u64 0] 38))
        have HS0 : Hid (Three 2 2 2 0 wr.heap.size _) := three_new (boxV_new 2 2 2 0 0 wr 38 _ rfl) (by simp)
        go_wp2_with fail
        refine (told_keep (Three 2 2 2 0 wr.heap.size) (three_stable 2 2 2 0 wr.heap.size) [⟨2, 2, 2, 0, 0⟩] 21 0 (by simp) (HR.out.below (HB.out.trans (HB0.out.mono hsz)) (Nat.le_refl _)) HS0.out (by rfl) rfl (by decide +kernel) (by decide +kernel) (by decide)).mono ?_
        rintro e w1 ⟨rfl, hb1, hs1⟩
        have HB1 := Lib.hid (HB0.out.trans (hb1.mono (by simp; omega)))
        have HS1 := Lib.hid hs1
        obtain ⟨⟨x0, x1, x2, x3, x4⟩, ⟨y0, y1, y2, y3, y4⟩, ⟨z0, z1, z2, z3, z4⟩⟩ := hs1
        clear hb1
        go_wp2_with fail
        refine (told_keep (Three 2 2 2 0 wr.heap.size) (three_stable 2 2 2 0 wr.heap.size) [⟨1, 2, 0, 0, 0⟩, ⟨2, 2, 2, 0, 0⟩, ⟨16, 2, 0, 0, 0⟩] 0 0 (by simp) (HR.out.below (HB.out.trans (HB1.out.mono hsz)) (Nat.le_refl _)) HS1.out (by rfl) rfl (by decide +kernel) (by decide +kernel) (by decide)).mono ?_
        rintro e w2 ⟨rfl, hb2, hs2⟩
        have HB2 := Lib.hid (HB1.out.trans (hb2.mono HB1.out.size))
        have HS2 := Lib.hid hs2
        obtain ⟨⟨x0, x1, x2, x3, x4⟩, ⟨y0, y1, y2, y3, y4⟩, ⟨z0, z1, z2, z3, z4⟩⟩ := hs2
        clear hb2
        go_wp2_with fail
        go_roundw
        case rel => exact ⟨3, by omega, rfl, HB.out.trans (HB2.out.mono hsz)⟩
        case measure => simp [intOf]
      · have HB0 := Lib.hid ((((Below.refl wr.heap.size wr).alloc (Nat.le_refl _) (.cells #[.int .i64 3, .int .i64 2, .int .i64 2, .int .i64 0, .int .u64 0] 38)).alloc (by simp) (.cells #[.int .i64 1, .int .i64 2, .int .i64 0, .int .i64 0, .int .u64 0] 38)).alloc (by simp; omega) (.cells #[.int .i64 16, .int .i64 2, .int .i64 0, .int .i64 0, .int .u64 0] 38))
        have HS0 : Hid (Three 3 2 2 0 wr.heap.size _) := three_new (boxV_new 3 2 2 0 0 wr 38 _ rfl) (by simp)
        go_wp2_with fail
        refine (told_keep (Three 3 2 2 0 wr.heap.size) (three_stable 3 2 2 0 wr.heap.size) [⟨3, 2, 2, 0, 0⟩] 21 0 (by simp) (HR.out.below (HB.out.trans (HB0.out.mono hsz)) (Nat.le_refl _)) HS0.out (by rfl) rfl (by decide +kernel) (by decide +kernel) (by decide)).mono ?_
        rintro e w1 ⟨rfl, hb1, hs1⟩
        have HB1 := Lib.hid (HB0.out.trans (hb1.mono (by simp; omega)))
        have HS1 := Lib.hid hs1
        obtain ⟨⟨x0, x1, x2, x3, x4⟩, ⟨y0, y1, y2, y3, y4⟩, ⟨z0, z1, z2, z3, z4⟩⟩ := hs1
        clear hb1
        go_wp2_with fail
        refine (told_keep (Three 3 2 2 0 wr.heap.size) (three_stable 3 2 2 0 wr.heap.size) [⟨1, 2, 0, 0, 0⟩, ⟨3, 2, 2, 0, 0⟩, ⟨16, 2, 0, 0, 0⟩] 0 0 (by simp) (HR.out.below (HB.out.trans (HB1.out.mono hsz)) (Nat.le_refl _)) HS1.out (by rfl) rfl (by decide +kernel) (by decide +kernel) (by decide)).mono ?_
        rintro e w2 ⟨rfl, hb2, hs2⟩
        have HB2 := Lib.hid (HB1.out.trans (hb2.mono HB1.out.size))
        have HS2 := Lib.hid hs2
        obtain ⟨⟨x0, x1, x2, x3, x4⟩, ⟨y0, y1, y2, y3, y4⟩, ⟨z0, z1, z2, z3, z4⟩⟩ := hs2
        clear hb2
        go_wp2_with fail
        go_roundw
        case rel => exact ⟨4, by omega, rfl, HB.out.trans (HB2.out.mono hsz)⟩
        case measure => simp [intOf]
      · have HB0 := Lib.hid ((((Below.refl wr.heap.size wr).alloc (Nat.le_refl _) (.cells #[.int .i64 4, .int .i64 2, .int .i64 2, .int .i64 0, .int .u64 0] 38)).alloc (by simp) (.cells #[.int .i64 1, .int .i64 2, .int .i64 0, .int .i64 0, .int .u64 0] 38)).alloc (by simp; omega) (.cells #[.int .i64 16, .int .i64 2, .int .i64 0, .int .i64 0, .int .u64 0] 38))
        have HS0 : Hid (Three 4 2 2 0 wr.heap.size _) := three_new (boxV_new 4 2 2 0 0 wr 38 _ rfl) (by simp)
        go_wp2_with fail
        refine (told_keep (Three 4 2 2 0 wr.heap.size) (three_stable 4 2 2 0 wr.heap.size) [⟨4, 2, 2, 0, 0⟩] 21 0 (by simp) (HR.out.below (HB.out.trans (HB0.out.mono hsz)) (Nat.le_refl _)) HS0.out (by rfl) rfl (by decide +kernel) (by decide +kernel) (by decide)).mono ?_
        rintro e w1 ⟨rfl, hb1, hs1⟩
        have HB1 := Lib.hid (HB0.out.trans (hb1.mono (by simp; omega)))
        have HS1 := Lib.hid hs1
        obtain ⟨⟨x0, x1, x2, x3, x4⟩, ⟨y0, y1, y2, y3, y4⟩, ⟨z0, z1, z2, z3, z4⟩⟩ := hs1
        clear hb1
        go_wp2_with fail
        refine (told_keep (Three 4 2 2 0 wr.heap.size) (three_stable 4 2 2 0 wr.heap.size) [⟨1, 2, 0, 0, 0⟩, ⟨4, 2, 2, 0, 0⟩, ⟨16, 2, 0, 0, 0⟩] 0 0 (by simp) (HR.out.below (HB.out.trans (HB1.out.mono hsz)) (Nat.le_refl _)) HS1.out (by rfl) rfl (by decide +kernel) (by decide +kernel) (by decide)).mono ?_
        rintro e w2 ⟨rfl, hb2, hs2⟩
        have HB2 := Lib.hid (HB1.out.trans (hb2.mono HB1.out.size))
        have HS2 := Lib.hid hs2
        obtain ⟨⟨x0, x1, x2, x3, x4⟩, ⟨y0, y1, y2, y3, y4⟩, ⟨z0, z1, z2, z3, z4⟩⟩ := hs2
        clear hb2
        go_wp2_with fail
        go_roundw
        case rel => exact ⟨5, by omega, rfl, HB.out.trans (HB2.out.mono hsz)⟩
        case measure => simp [intOf]
      · have HB0 := Lib.hid ((((Below.refl wr.heap.size wr).alloc (Nat.le_refl _) (.cells #[.int .i64 5, .int .i64 2, .int .i64 2, .int .i64 0, .int .u64 0] 38)).alloc (by simp) (.cells #[.int .i64 1, .int .i64 2, .int .i64 0, .int .i64 0, .int .u64 0] 38)).alloc (by simp; omega) (.cells #[.int .i64 16, .int .i64 2, .int .i64 0, .int .i64 0, .int .u64 0] 38))
        have HS0 : Hid (Three 5 2 2 0 wr.heap.size _) := three_new (boxV_new 5 2 2 0 0 wr 38 _ rfl) (by simp)
        go_wp2_with fail
        refine (told_keep (Three 5 2 2 0 wr.heap.size) (three_stable 5 2 2 0 wr.heap.size) [⟨5, 2, 2, 0, 0⟩] 21 0 (by simp) (HR.out.below (HB.out.trans (HB0.out.mono hsz)) (Nat.le_refl _)) HS0.out (by rfl) rfl (by decide +kernel) (by decide +kernel) (by decide)).mono ?_
        rintro e w1 ⟨rfl, hb1, hs1⟩
        have HB1 := Lib.hid (HB0.out.trans (hb1.mono (by simp; omega)))
        have HS1 := Lib.hid hs1
        obtain ⟨⟨x0, x1, x2, x3, x4⟩, ⟨y0, y1, y2, y3, y4⟩, ⟨z0, z1, z2, z3, z4⟩⟩ := hs1
        clear hb1
        go_wp2_with fail
        refine (told_keep (Three 5 2 2 0 wr.heap.size) (three_stable 5 2 2 0 wr.heap.size) [⟨1, 2, 0, 0, 0⟩, ⟨5, 2, 2, 0, 0⟩, ⟨16, 2, 0, 0, 0⟩] 0 0 (by simp) (HR.out.below (HB.out.trans (HB1.out.mono hsz)) (Nat.le_refl _)) HS1.out (by rfl) rfl (by decide +kernel) (by decide +kernel) (by decide)).mono ?_
        rintro e w2 ⟨rfl, hb2, hs2⟩
        have HB2 := Lib.hid (HB1.out.trans (hb2.mono HB1.out.size))
        have HS2 := Lib.hid hs2
        obtain ⟨⟨x0, x1, x2, x3, x4⟩, ⟨y0, y1, y2, y3, y4⟩, ⟨z0, z1, z2, z3, z4⟩⟩ := hs2
        clear hb2
        go_wp2_with fail
        go_roundw
        case rel => exact ⟨6, by omega, rfl, HB.out.trans (HB2.out.mono hsz)⟩
        case measure => simp [intOf]
      · have HB0 := Lib.hid ((((Below.refl wr.heap.size wr).alloc (Nat.le_refl _) (.cells #[.int .i64 6, .int .i64 2, .int .i64 0, .int .i64 0, .int .u64 0] 38)).alloc (by simp) (.cells #[.int .i64 1, .int .i64 2, .int .i64 0, .int .i64 0, .int .u64 0] 38)).alloc (by simp; omega) (.cells #[.int .i64 16, .int .i64 2, .int .i64 0, .int .i64 0, .int .u64 0] 38))
        have HS0 : Hid (Three 6 2 0 0 wr.heap.size _) := three_new (boxV_new 6 2 0 0 0 wr 38 _ rfl) (by simp)
        go_wp2_with fail
        refine (told_keep (Three 6 2 0 0 wr.heap.size) (three_stable 6 2 0 0 wr.heap.size) [⟨6, 2, 0, 0, 0⟩] 21 0 (by simp) (HR.out.below (HB.out.trans (HB0.out.mono hsz)) (Nat.le_refl _)) HS0.out (by rfl) rfl (by decide +kernel) (by decide +kernel) (by decide)).mono ?_
        rintro e w1 ⟨rfl, hb1, hs1⟩
        have HB1 := Lib.hid (HB0.out.trans (hb1.mono (by simp; omega)))
        have HS1 := Lib.hid hs1
        obtain ⟨⟨x0, x1, x2, x3, x4⟩, ⟨y0, y1, y2, y3, y4⟩, ⟨z0, z1, z2, z3, z4⟩⟩ := hs1
        clear hb1
        go_wp2_with fail
        refine (told_keep (Three 6 2 0 0 wr.heap.size) (three_stable 6 2 0 0 wr.heap.size) [⟨1, 2, 0, 0, 0⟩, ⟨6, 2, 0, 0, 0⟩, ⟨16, 2, 0, 0, 0⟩] 0 0 (by simp) (HR.out.below (HB.out.trans (HB1.out.mono hsz)) (Nat.le_refl _)) HS1.out (by rfl) rfl (by decide +kernel) (by decide +kernel) (by decide)).mono ?_
        rintro e w2 ⟨rfl, hb2, hs2⟩
        have HB2 := Lib.hid (HB1.out.trans (hb2.mono HB1.out.size))
        have HS2 := Lib.hid hs2
        obtain ⟨⟨x0, x1, x2, x3, x4⟩, ⟨y0, y1, y2, y3, y4⟩, ⟨z0, z1, z2, z3, z4⟩⟩ := hs2
        clear hb2
        go_wp2_with fail
        go_roundw
        case rel => exact ⟨7, by omega, rfl, HB.out.trans (HB2.out.mono hsz)⟩
        case measure => simp [intOf]
      · have HB0 := Lib.hid ((((Below.refl wr.heap.size wr).alloc (Nat.le_refl _) (.cells #[.int .i64 7, .int .i64 2, .int .i64 0, .int .i64 0, .int .u64 0] 38)).alloc (by simp) (.cells #[.int .i64 1, .int .i64 2, .int .i64 0, .int .i64 0, .int .u64 0] 38)).alloc (by simp; omega) (.cells #[.int .i64 16, .int .i64 2, .int .i64 0, .int .i64 0, .int .u64 0] 38))
        have HS0 : Hid (Three 7 2 0 0 wr.heap.size _) := three_new (boxV_new 7 2 0 0 0 wr 38 _ rfl) (by simp)
        go_wp2_with fail
        refine (told_keep (Three 7 2 0 0 wr.heap.size) (three_stable 7 2 0 0 wr.heap.size) [⟨7, 2, 0, 0, 0⟩] 21 0 (by simp) (HR.out.below (HB.out.trans (HB0.out.mono hsz)) (Nat.le_refl _)) HS0.out (by rfl) rfl (by decide +kernel) (by decide +kernel) (by decide)).mono ?_
        rintro e w1 ⟨rfl, hb1, hs1⟩
        have HB1 := Lib.hid (HB0.out.trans (hb1.mono (by simp; omega)))
        have HS1 := Lib.hid hs1
        obtain ⟨⟨x0, x1, x2, x3, x4⟩, ⟨y0, y1, y2, y3, y4⟩, ⟨z0, z1, z2, z3, z4⟩⟩ := hs1
        clear hb1
        go_wp2_with fail
        refine (told_keep (Three 7 2 0 0 wr.heap.size) (three_stable 7 2 0 0 wr.heap.size) [⟨1, 2, 0, 0, 0⟩, ⟨7, 2, 0, 0, 0⟩, ⟨16, 2, 0, 0, 0⟩] 0 0 (by simp) (HR.out.below (HB.out.trans (HB1.out.mono hsz)) (Nat.le_refl _)) HS1.out (by rfl) rfl (by decide +kernel) (by decide +kernel) (by decide)).mono ?_
        rintro e w2 ⟨rfl, hb2, hs2⟩
        have HB2 := Lib.hid (HB1.out.trans (hb2.mono HB1.out.size))
        have HS2 := Lib.hid hs2
        obtain ⟨⟨x0, x1, x2, x3, x4⟩, ⟨y0, y1, y2, y3, y4⟩, ⟨z0, z1, z2, z3, z4⟩⟩ := hs2
        clear hb2
        go_wp2_with fail
        go_roundw
        case rel => exact ⟨8, by omega, rfl, HB.out.trans (HB2.out.mono hsz)⟩
        case measure => simp [intOf]
      · have HB0 := Lib.hid ((((Below.refl wr.heap.size wr).alloc (Nat.le_refl _) (.cells #[.int .i64 8, .int .i64 2, .int .i64 0, .int .i64 0, .int .u64 0] 38)).alloc (by simp) (.cells #[.int .i64 1, .int .i64 2, .int .i64 0, .int .i64 0, .int .u64 0] 38)).alloc (by simp; omega) (.cells #[.int .i64 16, .int .i64 2, .int .i64 0, .int .i64 0, .int .u64 0] 38))
        have HS0 : Hid (Three 8 2 0 0 wr.heap.size _) := three_new (boxV_new 8 2 0 0 0 wr 38 _ rfl) (by simp)
        go_wp2_with fail
        refine (told_keep (Three 8 2 0 0 wr.heap.size) (three_stable 8 2 0 0 wr.heap.size) [⟨8, 2, 0, 0, 0⟩] 21 0 (by simp) (HR.out.below (HB.out.trans (HB0.out.mono hsz)) (Nat.le_refl _)) HS0.out (by rfl) rfl (by decide +kernel) (by decide +kernel) (by decide)).mono ?_
        rintro e w1 ⟨rfl, hb1, hs1⟩
        have HB1 := Lib.hid (HB0.out.trans (hb1.mono (by simp; omega)))
        have HS1 := Lib.hid hs1
        obtain ⟨⟨x0, x1, x2, x3, x4⟩, ⟨y0, y1, y2, y3, y4⟩, ⟨z0, z1, z2, z3, z4⟩⟩ := hs1
        clear hb1
        go_wp2_with fail
        refine (told_keep (Three 8 2 0 0 wr.heap.size) (three_stable 8 2 0 0 wr.heap.size) [⟨1, 2, 0, 0, 0⟩, ⟨8, 2, 0, 0, 0⟩, ⟨16, 2, 0, 0, 0⟩] 0 0 (by simp) (HR.out.below (HB.out.trans (HB1.out.mono hsz)) (Nat.le_refl _)) HS1.out (by rfl) rfl (by decide +kernel) (by decide +kernel) (by decide)).mono ?_
        rintro e w2 ⟨rfl, hb2, hs2⟩
        have HB2 := Lib.hid (HB1.out.trans (hb2.mono HB1.out.size))
        have HS2 := Lib.hid hs2
        obtain ⟨⟨x0, x1, x2, x3, x4⟩, ⟨y0, y1, y2, y3, y4⟩, ⟨z0, z1, z2, z3, z4⟩⟩ := hs2
        clear hb2
        go_wp2_with fail
        go_roundw
        case rel => exact ⟨9, by omega, rfl, HB.out.trans (HB2.out.mono hsz)⟩
        case measure => simp [intOf]
      · have HB0 := Lib.hid ((((Below.refl wr.heap.size wr).alloc (Nat.le_refl _) (.cells #[.int .i64 9, .int .i64 2, .int .i64 0, .int .i64 1, .int .u64 0] 38)).alloc (by simp) (.cells #[.int .i64 1, .int .i64 2, .int .i64 0, .int .i64 0, .int .u64 0] 38)).alloc (by simp; omega) (.cells #[.int .i64 16, .int .i64 2, .int .i64 0, .int .i64 0, .int .u64 0] 38))
        have HS0 : Hid (Three 9 2 0 1 wr.heap.size _) := three_new (boxV_new 9 2 0 1 0 wr 38 _ rfl) (by simp)
        go_wp2_with fail
        refine (told_keep (Three 9 2 0 1 wr.heap.size) (three_stable 9 2 0 1 wr.heap.size) [⟨9, 2, 0, 1, 0⟩] 0 0 (by simp) (HR.out.below (HB.out.trans (HB0.out.mono hsz)) (Nat.le_refl _)) HS0.out (by rfl) rfl (by decide +kernel) (by decide +kernel) (by decide)).mono ?_
        rintro e w1 ⟨rfl, hb1, hs1⟩
        have HB1 := Lib.hid (HB0.out.trans (hb1.mono (by simp; omega)))
        have HS1 := Lib.hid hs1
        obtain ⟨⟨x0, x1, x2, x3, x4⟩, ⟨y0, y1, y2, y3, y4⟩, ⟨z0, z1, z2, z3, z4⟩⟩ := hs1
        clear hb1
        go_wp2_with fail
        refine (told_keep (Three 9 2 0 1 wr.heap.size) (three_stable 9 2 0 1 wr.heap.size) [⟨1, 2, 0, 0, 0⟩, ⟨9, 2, 0, 1, 0⟩, ⟨16, 2, 0, 0, 0⟩] 0 0 (by simp) (HR.out.below (HB.out.trans (HB1.out.mono hsz)) (Nat.le_refl _)) HS1.out (by rfl) rfl (by decide +kernel) (by decide +kernel) (by decide)).mono ?_
        rintro e w2 ⟨rfl, hb2, hs2⟩
        have HB2 := Lib.hid (HB1.out.trans (hb2.mono HB1.out.size))
        have HS2 := Lib.hid hs2
        obtain ⟨⟨x0, x1, x2, x3, x4⟩, ⟨y0, y1, y2, y3, y4⟩, ⟨z0, z1, z2, z3, z4⟩⟩ := hs2
        clear hb2
        go_wp2_with fail
        clear x0 x1 x2 x3 x4 y0 y1 y2 y3 y4 z0 z1 z2 z3 z4
        refine (told_keep (Three 9 2 0 1 wr.heap.size) (three_stable 9 2 0 1 wr.heap.size) [⟨9, 2, 0, 1, 0⟩, ⟨16, 2, 0, 0, 0⟩] 0 1 (by simp) (HR.out.below (HB.out.trans (HB2.out.mono hsz)) (Nat.le_refl _)) HS2.out (by rfl) rfl (by decide +kernel) (by decide +kernel) (by decide)).mono ?_
        rintro e w3 ⟨rfl, hb3, hs3⟩
        have HB3 := Lib.hid (HB2.out.trans (hb3.mono HB2.out.size))
        have HS3 := Lib.hid hs3
        obtain ⟨⟨x0, x1, x2, x3, x4⟩, ⟨y0, y1, y2, y3, y4⟩, ⟨z0, z1, z2, z3, z4⟩⟩ := hs3
        clear hb3
        go_wp2_with fail
        go_roundw
        case rel => exact ⟨10, by omega, rfl, HB.out.trans (HB3.out.mono hsz)⟩
        case measure => simp [intOf]
      · have HB0 := Lib.hid ((((Below.refl wr.heap.size wr).alloc (Nat.le_refl _) (.cells #[.int .i64 10, .int .i64 2, .int .i64 0, .int .i64 1, .int .u64 0] 38)).alloc (by simp) (.cells #[.int .i64 1, .int .i64 2, .int .i64 0, .int .i64 0, .int .u64 0] 38)).alloc (by simp; omega) (.cells #[.int .i64 16, .int .i64 2, .int .i64 0, .int .i64 0, .int .u64 0] 38))
        have HS0 : Hid (Three 10 2 0 1 wr.heap.size _) := three_new (boxV_new 10 2 0 1 0 wr 38 _ rfl) (by simp)
        go_wp2_with fail
        refine (told_keep (Three 10 2 0 1 wr.heap.size) (three_stable 10 2 0 1 wr.heap.size) [⟨10, 2, 0, 1, 0⟩] 0 0 (by simp) (HR.out.below (HB.out.trans (HB0.out.mono hsz)) (Nat.le_refl _)) HS0.out (by rfl) rfl (by decide +kernel) (by decide +kernel) (by decide)).mono ?_
        rintro e w1 ⟨rfl, hb1, hs1⟩
        have HB1 := Lib.hid (HB0.out.trans (hb1.mono (by simp; omega)))
        have HS1 := Lib.hid hs1
        obtain ⟨⟨x0, x1, x2, x3, x4⟩, ⟨y0, y1, y2, y3, y4⟩, ⟨z0, z1, z2, z3, z4⟩⟩ := hs1
        clear hb1
        go_wp2_with fail
        refine (told_keep (Three 10 2 0 1 wr.heap.size) (three_stable 10 2 0 1 wr.heap.size) [⟨1, 2, 0, 0, 0⟩, ⟨10, 2, 0, 1, 0⟩, ⟨16, 2, 0, 0, 0⟩] 0 0 (by simp) (HR.out.below (HB.out.trans (HB1.out.mono hsz)) (Nat.le_refl _)) HS1.out (by rfl) rfl (by decide +kernel) (by decide +kernel) (by decide)).mono ?_
        rintro e w2 ⟨rfl, hb2, hs2⟩
        have HB2 := Lib.hid (HB1.out.trans (hb2.mono HB1.out.size))
        have HS2 := Lib.hid hs2
        obtain ⟨⟨x0, x1, x2, x3, x4⟩, ⟨y0, y1, y2, y3, y4⟩, ⟨z0, z1, z2, z3, z4⟩⟩ := hs2
        clear hb2
        go_wp2_with fail
        clear x0 x1 x2 x3 x4 y0 y1 y2 y3 y4 z0 z1 z2 z3 z4
        refine (told_keep (Three 10 2 0 1 wr.heap.size) (three_stable 10 2 0 1 wr.heap.size) [⟨10, 2, 0, 1, 0⟩, ⟨16, 2, 0, 0, 0⟩] 0 1 (by simp) (HR.out.below (HB.out.trans (HB2.out.mono hsz)) (Nat.le_refl _)) HS2.out (by rfl) rfl (by decide +kernel) (by decide +kernel) (by decide)).mono ?_
        rintro e w3 ⟨rfl, hb3, hs3⟩
        have HB3 := Lib.hid (HB2.out.trans (hb3.mono HB2.out.size))
        have HS3 := Lib.hid hs3
        obtain ⟨⟨x0, x1, x2, x3, x4⟩, ⟨y0, y1, y2, y3, y4⟩, ⟨z0, z1, z2, z3, z4⟩⟩ := hs3
        clear hb3
        go_wp2_with fail
        go_roundw
        case rel => exact ⟨11, by omega, rfl, HB.out.trans (HB3.out.mono hsz)⟩
        case measure => simp [intOf]
      · have HB0 := Lib.hid ((((Below.refl wr.heap.size wr).alloc (Nat.le_refl _) (.cells #[.int .i64 11, .int .i64 2, .int .i64 0, .int .i64 1, .int .u64 0] 38)).alloc (by simp) (.cells #[.int .i64 1, .int .i64 2, .int .i64 0, .int .i64 0, .int .u64 0] 38)).alloc (by simp; omega) (.cells #[.int .i64 16, .int .i64 2, .int .i64 0, .int .i64 0, .int .u64 0] 38))
        have HS0 : Hid (Three 11 2 0 1 wr.heap.size _) := three_new (boxV_new 11 2 0 1 0 wr 38 _ rfl) (by simp)
        go_wp2_with fail
        refine (told_keep (Three 11 2 0 1 wr.heap.size) (three_stable 11 2 0 1 wr.heap.size) [⟨11, 2, 0, 1, 0⟩] 21 0 (by simp) (HR.out.below (HB.out.trans (HB0.out.mono hsz)) (Nat.le_refl _)) HS0.out (by rfl) rfl (by decide +kernel) (by decide +kernel) (by decide)).mono ?_
        rintro e w1 ⟨rfl, hb1, hs1⟩
        have HB1 := Lib.hid (HB0.out.trans (hb1.mono (by simp; omega)))
        have HS1 := Lib.hid hs1
        obtain ⟨⟨x0, x1, x2, x3, x4⟩, ⟨y0, y1, y2, y3, y4⟩, ⟨z0, z1, z2, z3, z4⟩⟩ := hs1
        clear hb1
        go_wp2_with fail
        refine (told_keep (Three 11 2 0 1 wr.heap.size) (three_stable 11 2 0 1 wr.heap.size) [⟨1, 2, 0, 0, 0⟩, ⟨11, 2, 0, 1, 0⟩, ⟨16, 2, 0, 0, 0⟩] 0 0 (by simp) (HR.out.below (HB.out.trans (HB1.out.mono hsz)) (Nat.le_refl _)) HS1.out (by rfl) rfl (by decide +kernel) (by decide +kernel) (by decide)).mono ?_
        rintro e w2 ⟨rfl, hb2, hs2⟩
        have HB2 := Lib.hid (HB1.out.trans (hb2.mono HB1.out.size))
        have HS2 := Lib.hid hs2
        obtain ⟨⟨x0, x1, x2, x3, x4⟩, ⟨y0, y1, y2, y3, y4⟩, ⟨z0, z1, z2, z3, z4⟩⟩ := hs2
        clear hb2
        go_wp2_with fail
        go_roundw
        case rel => exact ⟨12, by omega, rfl, HB.out.trans (HB2.out.mono hsz)⟩
        case measure => simp [intOf]
      · have HB0 := Lib.hid ((((Below.refl wr.heap.size wr).alloc (Nat.le_refl _) (.cells #[.int .i64 12, .int .i64 2, .int .i64 0, .int .i64 1, .int .u64 0] 38)).alloc (by simp) (.cells #[.int .i64 1, .int .i64 2, .int .i64 0, .int .i64 0, .int .u64 0] 38)).alloc (by simp; omega) (.cells #[.int .i64 16, .int .i64 2, .int .i64 0, .int .i64 0, .int .u64 0] 38))
        have HS0 : Hid (Three 12 2 0 1 wr.heap.size _) := three_new (boxV_new 12 2 0 1 0 wr 38 _ rfl) (by simp)
        go_wp2_with fail
        refine (told_keep (Three 12 2 0 1 wr.heap.size) (three_stable 12 2 0 1 wr.heap.size) [⟨12, 2, 0, 1, 0⟩] 21 0 (by simp) (HR.out.below (HB.out.trans (HB0.out.mono hsz)) (Nat.le_refl _)) HS0.out (by rfl) rfl (by decide +kernel) (by decide +kernel) (by decide)).mono ?_
        rintro e w1 ⟨rfl, hb1, hs1⟩
        have HB1 := Lib.hid (HB0.out.trans (hb1.mono (by simp; omega)))
        have HS1 := Lib.hid hs1
        obtain ⟨⟨x0, x1, x2, x3, x4⟩, ⟨y0, y1, y2, y3, y4⟩, ⟨z0, z1, z2, z3, z4⟩⟩ := hs1
        clear hb1
        go_wp2_with fail
        refine (told_keep (Three 12 2 0 1 wr.heap.size) (three_stable 12 2 0 1 wr.heap.size) [⟨1, 2, 0, 0, 0⟩, ⟨12, 2, 0, 1, 0⟩, ⟨16, 2, 0, 0, 0⟩] 0 0 (by simp) (HR.out.below (HB.out.trans (HB1.out.mono hsz)) (Nat.le_refl _)) HS1.out (by rfl) rfl (by decide +kernel) (by decide +kernel) (by decide)).mono ?_
        rintro e w2 ⟨rfl, hb2, hs2⟩
        have HB2 := Lib.hid (HB1.out.trans (hb2.mono HB1.out.size))
        have HS2 := Lib.hid hs2
        obtain ⟨⟨x0, x1, x2, x3, x4⟩, ⟨y0, y1, y2, y3, y4⟩, ⟨z0, z1, z2, z3, z4⟩⟩ := hs2
        clear hb2
        go_wp2_with fail
        go_roundw
        case rel => exact ⟨13, by omega, rfl, HB.out.trans (HB2.out.mono hsz)⟩
        case measure => simp [intOf]
      · have HB0 := Lib.hid ((((Below.refl wr.heap.size wr).alloc (Nat.le_refl _) (.cells #[.int .i64 13, .int .i64 2, .int .i64 0, .int .i64 1, .int .u64 0] 38)).alloc (by simp) (.cells #[.int .i64 1, .int .i64 2, .int .i64 0, .int .i64 0, .int .u64 0] 38)).alloc (by simp; omega) (.cells #[.int .i64 16, .int .i64 2, .int .i64 0, .int .i64 0, .int .u64 0] 38))
        have HS0 : Hid (Three 13 2 0 1 wr.heap.size _) := three_new (boxV_new 13 2 0 1 0 wr 38 _ rfl) (by simp)
        go_wp2_with fail
        refine (told_keep (Three 13 2 0 1 wr.heap.size) (three_stable 13 2 0 1 wr.heap.size) [⟨13, 2, 0, 1, 0⟩] 21 0 (by simp) (HR.out.below (HB.out.trans (HB0.out.mono hsz)) (Nat.le_refl _)) HS0.out (by rfl) rfl (by decide +kernel) (by decide +kernel) (by decide)).mono ?_
        rintro e w1 ⟨rfl, hb1, hs1⟩
        have HB1 := Lib.hid (HB0.out.trans (hb1.mono (by simp; omega)))
        have HS1 := Lib.hid hs1
        obtain ⟨⟨x0, x1, x2, x3, x4⟩, ⟨y0, y1, y2, y3, y4⟩, ⟨z0, z1, z2, z3, z4⟩⟩ := hs1
        clear hb1
        go_wp2_with fail
        refine (told_keep (Three 13 2 0 1 wr.heap.size) (three_stable 13 2 0 1 wr.heap.size) [⟨1, 2, 0, 0, 0⟩, ⟨13, 2, 0, 1, 0⟩, ⟨16, 2, 0, 0, 0⟩] 0 0 (by simp) (HR.out.below (HB.out.trans (HB1.out.mono hsz)) (Nat.le_refl _)) HS1.out (by rfl) rfl (by decide +kernel) (by decide +kernel) (by decide)).mono ?_
        rintro e w2 ⟨rfl, hb2, hs2⟩
        have HB2 := Lib.hid (HB1.out.trans (hb2.mono HB1.out.size))
        have HS2 := Lib.hid hs2
        obtain ⟨⟨x0, x1, x2, x3, x4⟩, ⟨y0, y1, y2, y3, y4⟩, ⟨z0, z1, z2, z3, z4⟩⟩ := hs2
        clear hb2
        go_wp2_with fail
        go_roundw
        case rel => exact ⟨14, by omega, rfl, HB.out.trans (HB2.out.mono hsz)⟩
        case measure => simp [intOf]
      · have HB0 := Lib.hid ((((Below.refl wr.heap.size wr).alloc (Nat.le_refl _) (.cells #[.int .i64 14, .int .i64 2, .int .i64 0, .int .i64 1, .int .u64 0] 38)).alloc (by simp) (.cells #[.int .i64 1, .int .i64 2, .int .i64 0, .int .i64 0, .int .u64 0] 38)).alloc (by simp; omega) (.cells #[.int .i64 16, .int .i64 2, .int .i64 0, .int .i64 0, .int .u64 0] 38))
        have HS0 : Hid (Three 14 2 0 1 wr.heap.size _) := three_new (boxV_new 14 2 0 1 0 wr 38 _ rfl) (by simp)
        go_wp2_with fail
        refine (told_keep (Three 14 2 0 1 wr.heap.size) (three_stable 14 2 0 1 wr.heap.size) [⟨14, 2, 0, 1, 0⟩] 21 0 (by simp) (HR.out.below (HB.out.trans (HB0.out.mono hsz)) (Nat.le_refl _)) HS0.out (by rfl) rfl (by decide +kernel) (by decide +kernel) (by decide)).mono ?_
        rintro e w1 ⟨rfl, hb1, hs1⟩
        have HB1 := Lib.hid (HB0.out.trans (hb1.mono (by simp; omega)))
        have HS1 := Lib.hid hs1
        obtain ⟨⟨x0, x1, x2, x3, x4⟩, ⟨y0, y1, y2, y3, y4⟩, ⟨z0, z1, z2, z3, z4⟩⟩ := hs1
        clear hb1
        go_wp2_with fail
        refine (told_keep (Three 14 2 0 1 wr.heap.size) (three_stable 14 2 0 1 wr.heap.size) [⟨1, 2, 0, 0, 0⟩, ⟨14, 2, 0, 1, 0⟩, ⟨16, 2, 0, 0, 0⟩] 0 0 (by simp) (HR.out.below (HB.out.trans (HB1.out.mono hsz)) (Nat.le_refl _)) HS1.out (by rfl) rfl (by decide +kernel) (by decide +kernel) (by decide)).mono ?_
        rintro e w2 ⟨rfl, hb2, hs2⟩
        have HB2 := Lib.hid (HB1.out.trans (hb2.mono HB1.out.size))
        have HS2 := Lib.hid hs2
        obtain ⟨⟨x0, x1, x2, x3, x4⟩, ⟨y0, y1, y2, y3, y4⟩, ⟨z0, z1, z2, z3, z4⟩⟩ := hs2
        clear hb2
        go_wp2_with fail
        go_roundw
        case rel => exact ⟨15, by omega, rfl, HB.out.trans (HB2.out.mono hsz)⟩
        case measure => simp [intOf]
      · have HB0 := Lib.hid ((((Below.refl wr.heap.size wr).alloc (Nat.le_refl _) (.cells #[.int .i64 15, .int .i64 2, .int .i64 0, .int .i64 0, .int .u64 0] 38)).alloc (by simp) (.cells #[.int .i64 1, .int .i64 2, .int .i64 0, .int .i64 0, .int .u64 0] 38)).alloc (by simp; omega) (.cells #[.int .i64 16, .int .i64 2, .int .i64 0, .int .i64 0, .int .u64 0] 38))
        have HS0 : Hid (Three 15 2 0 0 wr.heap.size _) := three_new (boxV_new 15 2 0 0 0 wr 38 _ rfl) (by simp)
        go_wp2_with fail
        refine (told_keep (Three 15 2 0 0 wr.heap.size) (three_stable 15 2 0 0 wr.heap.size) [⟨15, 2, 0, 0, 0⟩] 0 0 (by simp) (HR.out.below (HB.out.trans (HB0.out.mono hsz)) (Nat.le_refl _)) HS0.out (by rfl) rfl (by decide +kernel) (by decide +kernel) (by decide)).mono ?_
        rintro e w1 ⟨rfl, hb1, hs1⟩
        have HB1 := Lib.hid (HB0.out.trans (hb1.mono (by simp; omega)))
        have HS1 := Lib.hid hs1
        obtain ⟨⟨x0, x1, x2, x3, x4⟩, ⟨y0, y1, y2, y3, y4⟩, ⟨z0, z1, z2, z3, z4⟩⟩ := hs1
        clear hb1
        go_wp2_with fail
        refine (told_keep (Three 15 2 0 0 wr.heap.size) (three_stable 15 2 0 0 wr.heap.size) [⟨1, 2, 0, 0, 0⟩, ⟨15, 2, 0, 0, 0⟩, ⟨16, 2, 0, 0, 0⟩] 0 0 (by simp) (HR.out.below (HB.out.trans (HB1.out.mono hsz)) (Nat.le_refl _)) HS1.out (by rfl) rfl (by decide +kernel) (by decide +kernel) (by decide)).mono ?_
        rintro e w2 ⟨rfl, hb2, hs2⟩
        have HB2 := Lib.hid (HB1.out.trans (hb2.mono HB1.out.size))
        have HS2 := Lib.hid hs2
        obtain ⟨⟨x0, x1, x2, x3, x4⟩, ⟨y0, y1, y2, y3, y4⟩, ⟨z0, z1, z2, z3, z4⟩⟩ := hs2
        clear hb2
        go_wp2_with fail
        clear x0 x1 x2 x3 x4 y0 y1 y2 y3 y4 z0 z1 z2 z3 z4
        refine (told_keep (Three 15 2 0 0 wr.heap.size) (three_stable 15 2 0 0 wr.heap.size) [⟨15, 2, 0, 0, 0⟩, ⟨16, 2, 0, 0, 0⟩] 0 1 (by simp) (HR.out.below (HB.out.trans (HB2.out.mono hsz)) (Nat.le_refl _)) HS2.out (by rfl) rfl (by decide +kernel) (by decide +kernel) (by decide)).mono ?_
        rintro e w3 ⟨rfl, hb3, hs3⟩
        have HB3 := Lib.hid (HB2.out.trans (hb3.mono HB2.out.size))
        have HS3 := Lib.hid hs3
        obtain ⟨⟨x0, x1, x2, x3, x4⟩, ⟨y0, y1, y2, y3, y4⟩, ⟨z0, z1, z2, z3, z4⟩⟩ := hs3
        clear hb3
        go_wp2_with fail
        go_roundw
        case rel => exact ⟨16, by omega, rfl, HB.out.trans (HB3.out.mono hsz)⟩
        case measure => simp [intOf]
      · have HB0 := Lib.hid ((((Below.refl wr.heap.size wr).alloc (Nat.le_refl _) (.cells #[.int .i64 16, .int .i64 2, .int .i64 0, .int .i64 0, .int .u64 0] 38)).alloc (by simp) (.cells #[.int .i64 1, .int .i64 2, .int .i64 0, .int .i64 0, .int .u64 0] 38)).alloc (by simp; omega) (.cells #[.int .i64 16, .int .i64 2, .int .i64 0, .int .i64 0, .int .u64 0] 38))
        have HS0 : Hid (Three 16 2 0 0 wr.heap.size _) := three_new (boxV_new 16 2 0 0 0 wr 38 _ rfl) (by simp)
        go_wp2_with fail
        refine (told_keep (Three 16 2 0 0 wr.heap.size) (three_stable 16 2 0 0 wr.heap.size) [⟨16, 2, 0, 0, 0⟩] 21 0 (by simp) (HR.out.below (HB.out.trans (HB0.out.mono hsz)) (Nat.le_refl _)) HS0.out (by rfl) rfl (by decide +kernel) (by decide +kernel) (by decide)).mono ?_
        rintro e w1 ⟨rfl, hb1, hs1⟩
        have HB1 := Lib.hid (HB0.out.trans (hb1.mono (by simp; omega)))
        have HS1 := Lib.hid hs1
        obtain ⟨⟨x0, x1, x2, x3, x4⟩, ⟨y0, y1, y2, y3, y4⟩, ⟨z0, z1, z2, z3, z4⟩⟩ := hs1
        clear hb1
        go_wp2_with fail
        refine (told_keep (Three 16 2 0 0 wr.heap.size) (three_stable 16 2 0 0 wr.heap.size) [⟨1, 2, 0, 0, 0⟩, ⟨16, 2, 0, 0, 0⟩, ⟨16, 2, 0, 0, 0⟩] 0 0 (by simp) (HR.out.below (HB.out.trans (HB1.out.mono hsz)) (Nat.le_refl _)) HS1.out (by rfl) rfl (by decide +kernel) (by decide +kernel) (by decide)).mono ?_
        rintro e w2 ⟨rfl, hb2, hs2⟩
        have HB2 := Lib.hid (HB1.out.trans (hb2.mono HB1.out.size))
        have HS2 := Lib.hid hs2
        obtain ⟨⟨x0, x1, x2, x3, x4⟩, ⟨y0, y1, y2, y3, y4⟩, ⟨z0, z1, z2, z3, z4⟩⟩ := hs2
        clear hb2
        go_wp2_with fail
        go_roundw
        case rel => exact ⟨17, by omega, rfl, HB.out.trans (HB2.out.mono hsz)⟩
        case measure => simp [intOf]
      · have HB0 := Lib.hid ((((Below.refl wr.heap.size wr).alloc (Nat.le_refl _) (.cells #[.int .i64 17, .int .i64 2, .int .i64 0, .int .i64 1, .int .u64 0] 38)).alloc (by simp) (.cells #[.int .i64 1, .int .i64 2, .int .i64 0, .int .i64 0, .int .u64 0] 38)).alloc (by simp; omega) (.cells #[.int .i64 16, .int .i64 2, .int .i64 0, .int .i64 0, .int .u64 0] 38))
        have HS0 : Hid (Three 17 2 0 1 wr.heap.size _) := three_new (boxV_new 17 2 0 1 0 wr 38 _ rfl) (by simp)
        go_wp2_with fail
        refine (told_keep (Three 17 2 0 1 wr.heap.size) (three_stable 17 2 0 1 wr.heap.size) [⟨17, 2, 0, 1, 0⟩] 21 0 (by simp) (HR.out.below (HB.out.trans (HB0.out.mono hsz)) (Nat.le_refl _)) HS0.out (by rfl) rfl (by decide +kernel) (by decide +kernel) (by decide)).mono ?_
        rintro e w1 ⟨rfl, hb1, hs1⟩
        have HB1 := Lib.hid (HB0.out.trans (hb1.mono (by simp; omega)))
        have HS1 := Lib.hid hs1
        obtain ⟨⟨x0, x1, x2, x3, x4⟩, ⟨y0, y1, y2, y3, y4⟩, ⟨z0, z1, z2, z3, z4⟩⟩ := hs1
        clear hb1
        go_wp2_with fail
        refine (told_keep (Three 17 2 0 1 wr.heap.size) (three_stable 17 2 0 1 wr.heap.size) [⟨1, 2, 0, 0, 0⟩, ⟨17, 2, 0, 1, 0⟩, ⟨16, 2, 0, 0, 0⟩] 0 0 (by simp) (HR.out.below (HB.out.trans (HB1.out.mono hsz)) (Nat.le_refl _)) HS1.out (by rfl) rfl (by decide +kernel) (by decide +kernel) (by decide)).mono ?_
        rintro e w2 ⟨rfl, hb2, hs2⟩
        have HB2 := Lib.hid (HB1.out.trans (hb2.mono HB1.out.size))
        have HS2 := Lib.hid hs2
        obtain ⟨⟨x0, x1, x2, x3, x4⟩, ⟨y0, y1, y2, y3, y4⟩, ⟨z0, z1, z2, z3, z4⟩⟩ := hs2
        clear hb2
        go_wp2_with fail
        go_roundw
        case rel => exact ⟨18, by omega, rfl, HB.out.trans (HB2.out.mono hsz)⟩
        case measure => simp [intOf]
      · have HB0 := Lib.hid ((((Below.refl wr.heap.size wr).alloc (Nat.le_refl _) (.cells #[.int .i64 18, .int .i64 0, .int .i64 0, .int .i64 0, .int .u64 0] 38)).alloc (by simp) (.cells #[.int .i64 1, .int .i64 2, .int .i64 0, .int .i64 0, .int .u64 0] 38)).alloc (by simp; omega) (.cells #[.int .i64 16, .int .i64 2, .int .i64 0, .int .i64 0, .int .u64 0] 38))
        have HS0 : Hid (Three 18 0 0 0 wr.heap.size _) := three_new (boxV_new 18 0 0 0 0 wr 38 _ rfl) (by simp)
        go_wp2_with fail
        refine (told_keep (Three 18 0 0 0 wr.heap.size) (three_stable 18 0 0 0 wr.heap.size) [⟨18, 0, 0, 0, 0⟩] 0 0 (by simp) (HR.out.below (HB.out.trans (HB0.out.mono hsz)) (Nat.le_refl _)) HS0.out (by rfl) rfl (by decide +kernel) (by decide +kernel) (by decide)).mono ?_
        rintro e w1 ⟨rfl, hb1, hs1⟩
        have HB1 := Lib.hid (HB0.out.trans (hb1.mono (by simp; omega)))
        have HS1 := Lib.hid hs1
        obtain ⟨⟨x0, x1, x2, x3, x4⟩, ⟨y0, y1, y2, y3, y4⟩, ⟨z0, z1, z2, z3, z4⟩⟩ := hs1
        clear hb1
        go_wp2_with fail
        refine (told_keep (Three 18 0 0 0 wr.heap.size) (three_stable 18 0 0 0 wr.heap.size) [⟨1, 2, 0, 0, 0⟩, ⟨18, 0, 0, 0, 0⟩, ⟨16, 2, 0, 0, 0⟩] 0 0 (by simp) (HR.out.below (HB.out.trans (HB1.out.mono hsz)) (Nat.le_refl _)) HS1.out (by rfl) rfl (by decide +kernel) (by decide +kernel) (by decide)).mono ?_
        rintro e w2 ⟨rfl, hb2, hs2⟩
        have HB2 := Lib.hid (HB1.out.trans (hb2.mono HB1.out.size))
        have HS2 := Lib.hid hs2
        obtain ⟨⟨x0, x1, x2, x3, x4⟩, ⟨y0, y1, y2, y3, y4⟩, ⟨z0, z1, z2, z3, z4⟩⟩ := hs2
        clear hb2
        go_wp2_with fail
        clear x0 x1 x2 x3 x4 y0 y1 y2 y3 y4 z0 z1 z2 z3 z4
        refine (told_keep (Three 18 0 0 0 wr.heap.size) (three_stable 18 0 0 0 wr.heap.size) [⟨18, 0, 0, 0, 0⟩, ⟨16, 2, 0, 0, 0⟩] 21 1 (by simp) (HR.out.below (HB.out.trans (HB2.out.mono hsz)) (Nat.le_refl _)) HS2.out (by rfl) rfl (by decide +kernel) (by decide +kernel) (by decide)).mono ?_
        rintro e w3 ⟨rfl, hb3, hs3⟩
        have HB3 := Lib.hid (HB2.out.trans (hb3.mono HB2.out.size))
        have HS3 := Lib.hid hs3
        obtain ⟨⟨x0, x1, x2, x3, x4⟩, ⟨y0, y1, y2, y3, y4⟩, ⟨z0, z1, z2, z3, z4⟩⟩ := hs3
        clear hb3
        go_wp2_with fail
        go_roundw
        case rel => exact ⟨19, by omega, rfl, HB.out.trans (HB3.out.mono hsz)⟩
        case measure => simp [intOf]
      · have HB0 := Lib.hid ((((Below.refl wr.heap.size wr).alloc (Nat.le_refl _) (.cells #[.int .i64 19, .int .i64 2, .int .i64 0, .int .i64 0, .int .u64 0] 38)).alloc (by simp) (.cells #[.int .i64 1, .int .i64 2, .int .i64 0, .int .i64 0, .int .u64 0] 38)).alloc (by simp; omega) (.cells #[.int .i64 16, .int .i64 2, .int .i64 0, .int .i64 0, .int .u64 0] 38))
        have HS0 : Hid (Three 19 2 0 0 wr.heap.size _) := three_new (boxV_new 19 2 0 0 0 wr 38 _ rfl) (by simp)
        go_wp2_with fail
        refine (told_keep (Three 19 2 0 0 wr.heap.size) (three_stable 19 2 0 0 wr.heap.size) [⟨19, 2, 0, 0, 0⟩] 21 0 (by simp) (HR.out.below (HB.out.trans (HB0.out.mono hsz)) (Nat.le_refl _)) HS0.out (by rfl) rfl (by decide +kernel) (by decide +kernel) (by decide)).mono ?_
        rintro e w1 ⟨rfl, hb1, hs1⟩
        have HB1 := Lib.hid (HB0.out.trans (hb1.mono (by simp; omega)))
        have HS1 := Lib.hid hs1
        obtain ⟨⟨x0, x1, x2, x3, x4⟩, ⟨y0, y1, y2, y3, y4⟩, ⟨z0, z1, z2, z3, z4⟩⟩ := hs1
        clear hb1
        go_wp2_with fail
        refine (told_keep (Three 19 2 0 0 wr.heap.size) (three_stable 19 2 0 0 wr.heap.size) [⟨1, 2, 0, 0, 0⟩, ⟨19, 2, 0, 0, 0⟩, ⟨16, 2, 0, 0, 0⟩] 0 0 (by simp) (HR.out.below (HB.out.trans (HB1.out.mono hsz)) (Nat.le_refl _)) HS1.out (by rfl) rfl (by decide +kernel) (by decide +kernel) (by decide)).mono ?_
        rintro e w2 ⟨rfl, hb2, hs2⟩
        have HB2 := Lib.hid (HB1.out.trans (hb2.mono HB1.out.size))
        have HS2 := Lib.hid hs2
        obtain ⟨⟨x0, x1, x2, x3, x4⟩, ⟨y0, y1, y2, y3, y4⟩, ⟨z0, z1, z2, z3, z4⟩⟩ := hs2
        clear hb2
        go_wp2_with fail
        go_roundw
        case rel => exact ⟨20, by omega, rfl, HB.out.trans (HB2.out.mono hsz)⟩
        case measure => simp [intOf]
    · obtain rfl : k = 20 := by omega
      have HW := Lib.hid ((((Below.refl wr.heap.size wr).alloc (Nat.le_refl _) (.cells #[.int .i64 1, .int .i64 2, .int .i64 0, .int .i64 0, .int .u64 0, .int .i64 5, .int .i64 2, .int .i64 3, .int .i64 0, .int .u64 0] 38)).alloc (by simp) (.cells #[.int .i64 1, .int .i64 3, .int .i64 0, .int .i64 0, .int .u64 0, .int .i64 5, .int .i64 2, .int .i64 3, .int .i64 0, .int .u64 0] 38)).alloc (by simp; omega) (.cells #[.int .i64 1, .int .i64 3, .int .i64 0, .int .i64 0, .int .u64 0, .int .i64 2, .int .i64 2, .int .i64 3, .int .i64 0, .int .u64 0, .int .i64 16, .int .i64 2, .int .i64 0, .int .i64 0, .int .u64 0] 38))
      have HP1 := Lib.hid ((progAt_newX [⟨1, 2, 0, 0, 0⟩, ⟨5, 2, 3, 0, 0⟩] _ 2 38 wr (X := wr.heap.size) rfl rfl rfl).below (((Below.refl _ (wr.alloc (.cells #[.int .i64 1, .int .i64 2, .int .i64 0, .int .i64 0, .int .u64 0, .int .i64 5, .int .i64 2, .int .i64 3, .int .i64 0, .int .u64 0] 38))).alloc (Nat.le_refl _) (.cells #[.int .i64 1, .int .i64 3, .int .i64 0, .int .i64 0, .int .u64 0, .int .i64 5, .int .i64 2, .int .i64 3, .int .i64 0, .int .u64 0] 38)).alloc (by simp) (.cells #[.int .i64 1, .int .i64 3, .int .i64 0, .int .i64 0, .int .u64 0, .int .i64 2, .int .i64 2, .int .i64 3, .int .i64 0, .int .u64 0, .int .i64 16, .int .i64 2, .int .i64 0, .int .i64 0, .int .u64 0] 38)) (Nat.le_refl _))
      have HP2 := Lib.hid ((progAt_newX [⟨1, 3, 0, 0, 0⟩, ⟨5, 2, 3, 0, 0⟩] _ 2 38 (wr.alloc (.cells #[.int .i64 1, .int .i64 2, .int .i64 0, .int .i64 0, .int .u64 0, .int .i64 5, .int .i64 2, .int .i64 3, .int .i64 0, .int .u64 0] 38)) (X := wr.heap.size + 1) (by simp) rfl rfl).below ((Below.refl _ ((wr.alloc (.cells #[.int .i64 1, .int .i64 2, .int .i64 0, .int .i64 0, .int .u64 0, .int .i64 5, .int .i64 2, .int .i64 3, .int .i64 0, .int .u64 0] 38)).alloc (.cells #[.int .i64 1, .int .i64 3, .int .i64 0, .int .i64 0, .int .u64 0, .int .i64 5, .int .i64 2, .int .i64 3, .int .i64 0, .int .u64 0] 38))).alloc (Nat.le_refl _) (.cells #[.int .i64 1, .int .i64 3, .int .i64 0, .int .i64 0, .int .u64 0, .int .i64 2, .int .i64 2, .int .i64 3, .int .i64 0, .int .u64 0, .int .i64 16, .int .i64 2, .int .i64 0, .int .i64 0, .int .u64 0] 38)) (Nat.le_refl _))
      have HP3 := Lib.hid (progAt_newX [⟨1, 3, 0, 0, 0⟩, ⟨2, 2, 3, 0, 0⟩, ⟨16, 2, 0, 0, 0⟩] _ 3 38 ((wr.alloc (.cells #[.int .i64 1, .int .i64 2, .int .i64 0, .int .i64 0, .int .u64 0, .int .i64 5, .int .i64 2, .int .i64 3, .int .i64 0, .int .u64 0] 38)).alloc (.cells #[.int .i64 1, .int .i64 3, .int .i64 0, .int .i64 0, .int .u64 0, .int .i64 5, .int .i64 2, .int .i64 3, .int .i64 0, .int .u64 0] 38)) (X := wr.heap.size + 1 + 1) (by simp) rfl rfl)
      obtain ⟨w3, hW3⟩ : ∃ w3, ((wr.alloc (.cells #[.int .i64 1, .int .i64 2, .int .i64 0, .int .i64 0, .int .u64 0, .int .i64 5, .int .i64 2, .int .i64 3, .int .i64 0, .int .u64 0] 38)).alloc (.cells #[.int .i64 1, .int .i64 3, .int .i64 0, .int .i64 0, .int .u64 0, .int .i64 5, .int .i64 2, .int .i64 3, .int .i64 0, .int .u64 0] 38)).alloc (.cells #[.int .i64 1, .int .i64 3, .int .i64 0, .int .i64 0, .int .u64 0, .int .i64 2, .int .i64 2, .int .i64 3, .int .i64 0, .int .u64 0, .int .i64 16, .int .i64 2, .int .i64 0, .int .i64 0, .int .u64 0] 38) = w3 := ⟨_, rfl⟩
      have HW' : Hid (Below wr.heap.size wr w3) := by rw [← hW3]; exact HW
      have HP1' : Hid (ProgAt w3 (some ⟨wr.heap.size, 0, none⟩) 2 [⟨1, 2, 0, 0, 0⟩, ⟨5, 2, 3, 0, 0⟩]) := by rw [← hW3]; exact HP1
      have HP2' : Hid (ProgAt w3 (some ⟨wr.heap.size + 1, 0, none⟩) 2 [⟨1, 3, 0, 0, 0⟩, ⟨5, 2, 3, 0, 0⟩]) := by rw [← hW3]; exact HP2
      have HP3' : Hid (ProgAt w3 (some ⟨wr.heap.size + 1 + 1, 0, none⟩) 3 [⟨1, 3, 0, 0, 0⟩, ⟨2, 2, 3, 0, 0⟩, ⟨16, 2, 0, 0, 0⟩]) := by rw [← hW3]; exact HP3
      clear HW HP1 HP2 HP3
      have HW2 := Lib.hid HW'.out.size
      have h1 := told_any (some ⟨wr.heap.size, 0, none⟩) 2 2 [⟨1, 2, 0, 0, 0⟩, ⟨5, 2, 3, 0, 0⟩] 21 1 _ (HP1'.out.below (Below.refl _ _) (Nat.le_refl _)) (wf_of (by decide +kernel)) (HR.out.below (HB.out.trans ((HW'.out).mono hsz)) (Nat.le_refl _)) (by omega)
      rw [show atB (progEr [⟨1, 2, 0, 0, 0⟩, ⟨5, 2, 3, 0, 0⟩] 2 1) 21 0 1 = true by decide +kernel] at h1
      have HT1 := Lib.hid h1
      clear h1
      go_wp2_with fail
      try rw [hW3]
      refine HT1.out.mono ?_
      rintro e w4 ⟨rfl, hb4⟩
      have HC1 := Lib.hid hb4
      clear hb4
      have h2 := told_any (some ⟨wr.heap.size + 1, 0, none⟩) 2 2 [⟨1, 3, 0, 0, 0⟩, ⟨5, 2, 3, 0, 0⟩] 21 1 _ (HP2'.out.below HC1.out (Nat.le_refl _)) (wf_of (by decide +kernel)) (HR.out.below (HB.out.trans ((HW'.out.trans (HC1.out.mono HW2.out)).mono hsz)) (Nat.le_refl _)) (by omega)
      rw [show atB (progEr [⟨1, 3, 0, 0, 0⟩, ⟨5, 2, 3, 0, 0⟩] 2 1) 21 0 1 = true by decide +kernel] at h2
      have HT2 := Lib.hid h2
      clear h2
      go_wp2_with fail
      refine HT2.out.mono ?_
      rintro e w5 ⟨rfl, hb5⟩
      have HC2 := Lib.hid (HC1.out.trans (hb5.mono HC1.out.size))
      clear hb5
      have h3 := told_any (some ⟨wr.heap.size + 1 + 1, 0, none⟩) 3 3 [⟨1, 3, 0, 0, 0⟩, ⟨2, 2, 3, 0, 0⟩, ⟨16, 2, 0, 0, 0⟩] 0 0 _ (HP3'.out.below HC2.out (Nat.le_refl _)) (wf_of (by decide +kernel)) (HR.out.below (HB.out.trans ((HW'.out.trans (HC2.out.mono HW2.out)).mono hsz)) (Nat.le_refl _)) (by omega)
      rw [show atB (progEr [⟨1, 3, 0, 0, 0⟩, ⟨2, 2, 3, 0, 0⟩, ⟨16, 2, 0, 0, 0⟩] 2 1) 0 0 0 = true by decide +kernel] at h3
      have HT3 := Lib.hid h3
      clear h3
      go_wp2_with fail
      refine HT3.out.mono ?_
      rintro e w6 ⟨rfl, hb6⟩
      have HC3 := Lib.hid (HC2.out.trans (hb6.mono HC2.out.size))
      clear hb6
      go_wp2_with fail
      go_ret
      exact ⟨rfl, HB.out.trans ((HW'.out.trans (HC3.out.mono HW2.out)).mono hsz)⟩

end Code
end Go.Proofs.YthafeadfpfibkaaGreatDoor
