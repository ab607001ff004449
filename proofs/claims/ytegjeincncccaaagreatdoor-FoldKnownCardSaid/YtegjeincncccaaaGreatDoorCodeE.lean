/- Package code: each operation's fields. -/
import Derived.Test.YtegjeincncccaaaGreatDoorCodeD
import Derived.Laws.EntriesVeiled
namespace Go.Proofs.YtegjeincncccaaaGreatDoor
open Go.RowKit

namespace Code

/-- field i of a slice of fields -/
def FieldOf (w : World) (ao : Option Addr) (i : Nat) (fk : FK) : Prop :=
 ∃ g v0 v1 v2 v3 v4, ao = some ⟨g, 0, none⟩ ∧ g < w.heap.size ∧ w.cell? ⟨g, i * 5, none⟩ = some v0 ∧ w.cell? ⟨g, i * 5 + 1, none⟩ = some v1 ∧ w.cell? ⟨g, i * 5 + 2, none⟩ = some v2 ∧
  w.cell? ⟨g, i * 5 + 3, none⟩ = some v3 ∧ w.cell? ⟨g, i * 5 + 4, none⟩ = some v4 ∧ FieldAt w fk v0 v1 v2 v3 v4

/-- a slice of fields -/
structure FieldsAt (w : World) (ao : Option Addr) (n : Nat) (fks : List FK) : Prop where
 len : n = fks.length
 at_ : ∀ i fk, fks[i]? = some fk → FieldOf w ao i fk

theorem FieldOf.below {N : Nat} {w w' : World} {ao : Option Addr} {i : Nat} {fk : FK} (h : FieldOf w ao i fk) (hb : Below N w w') (hN : w.heap.size ≤ N) : FieldOf w' ao i fk := by
 obtain ⟨g, v0, v1, v2, v3, v4, rfl, hg, h0, h1, h2, h3, h4, hf⟩ := h
 have hgN := Nat.lt_of_lt_of_le hg hN
 exact ⟨g, v0, v1, v2, v3, v4, rfl, Nat.lt_of_lt_of_le hg hb.size, (hb.cell (p := ⟨g, _, none⟩) hgN).trans h0, (hb.cell (p := ⟨g, _, none⟩) hgN).trans h1, (hb.cell (p := ⟨g, _, none⟩) hgN).trans h2,
  (hb.cell (p := ⟨g, _, none⟩) hgN).trans h3, (hb.cell (p := ⟨g, _, none⟩) hgN).trans h4, hf.below hb hN⟩

theorem FieldsAt.below {N : Nat} {w w' : World} {ao : Option Addr} {n : Nat} {fks : List FK} (h : FieldsAt w ao n fks) (hb : Below N w w') (hN : w.heap.size ≤ N) : FieldsAt w' ao n fks :=
 ⟨h.len, fun i fk hi => (h.at_ i fk hi).below hb hN⟩

def reg : FK := .small 0 0 15
def other : FK := .small 1 0 15
def slot : FK := .small 1 0 63

def Quint (w : World) : List FK → List Value → Prop
 | [], _ => True
 | fk :: r, v0 :: v1 :: v2 :: v3 :: v4 :: l => FieldAt w fk v0 v1 v2 v3 v4 ∧ Quint w r l
 | _ :: _, _ => False

theorem Quint.get {w : World} : ∀ {fks : List FK} {vs : List Value}, Quint w fks vs → ∀ i fk, fks[i]? = some fk →
    ∃ v0 v1 v2 v3 v4, vs[i * 5]? = some v0 ∧ vs[i * 5 + 1]? = some v1 ∧ vs[i * 5 + 2]? = some v2 ∧ vs[i * 5 + 3]? = some v3 ∧ vs[i * 5 + 4]? = some v4 ∧ FieldAt w fk v0 v1 v2 v3 v4
 | [], _, _, i, fk, hi => by simp at hi
 | f :: r, v0 :: v1 :: v2 :: v3 :: v4 :: l, h, i, fk, hi => by
  cases i with
  | zero =>
   simp at hi
   subst hi
   exact ⟨v0, v1, v2, v3, v4, rfl, rfl, rfl, rfl, rfl, h.1⟩
  | succ i =>
   obtain ⟨u0, u1, u2, u3, u4, h0, h1, h2, h3, h4, hf⟩ := Quint.get h.2 i fk (by simpa using hi)
   refine ⟨u0, u1, u2, u3, u4, ?_, ?_, ?_, ?_, ?_, hf⟩ <;> (rw [show (i + 1) * 5 = i * 5 + 5 by omega]; assumption)

theorem fieldsAt_block {w : World} {g n : Nat} {vs : List Value} {t : TypeId} {fks : List FK} (hb : w.heap[g]? = some (.cells vs.toArray t (0, 0))) (hn : n = fks.length) (h : Quint w fks vs) : FieldsAt w (some ⟨g, 0, none⟩) n fks := by
 refine ⟨hn, fun i fk hi => ?_⟩
 obtain ⟨v0, v1, v2, v3, v4, h0, h1, h2, h3, h4, hf⟩ := h.get i fk hi
 refine ⟨g, v0, v1, v2, v3, v4, rfl, lt_of_block hb, ?_, ?_, ?_, ?_, ?_, hf⟩ <;> (rw [cell_of_row _ _ _ _ _ _ hb]; simpa using by assumption)

theorem fields_top {w : World} {g n : Nat} {vs : List Value} {fks : List FK} (hq : Quint (w.alloc (.cells vs.toArray 269)) fks vs) (hg : g = w.heap.size) (hn : n = fks.length) :
    FieldsAt (w.alloc (.cells vs.toArray 269)) (some ⟨g, 0, none⟩) n fks := by
 subst hg
 exact fieldsAt_block (heap_alloc_new w _) hn hq

theorem res_cell {w w1 : World} {N : Nat} {T : Array Value} {t : TypeId} (hb : Below N (w.alloc (.cells T t)) w1) (hN : w.heap.size < N) (j : Nat) : w1.cell? ⟨w.heap.size, j, none⟩ = T[j]? :=
 (hb.cell (p := ⟨w.heap.size, j, none⟩) hN).trans (cell_of_row _ _ _ _ _ _ (heap_alloc_new w _))
theorem res_frozen {w w1 : World} {N : Nat} {T : Array Value} {t : TypeId} (hb : Below N (w.alloc (.cells T t)) w1) (hN : w.heap.size < N) (j : Nat) : w1.frozen? ⟨w.heap.size, j, none⟩ = false :=
 (hb.frozen (p := ⟨w.heap.size, j, none⟩) hN).trans (frozen_blk (heap_alloc_new w _))

theorem box_cell {w w1 : World} {N : Nat} {T : Array Value} {t : TypeId} (hb : Below N (w.alloc (.cells T t)).drew w1) (hN : w.heap.size < N) (j : Nat) : w1.cell? ⟨w.heap.size, j, none⟩ = T[j]? :=
 (hb.cell (p := ⟨w.heap.size, j, none⟩) hN).trans (cell_of_row _ _ _ _ _ _ (heap_alloc_new w _))

theorem FieldAt.alloc {w : World} {fk : FK} {v0 v1 v2 v3 v4 : Value} (h : FieldAt w fk v0 v1 v2 v3 v4) (o : Obj) : FieldAt (w.alloc o) fk v0 v1 v2 v3 v4 := h.below ((Below.refl _ _).alloc (Nat.le_refl _) o) (Nat.le_refl _)

set_option maxRecDepth 100000 in
set_option maxHeartbeats 800000 in
theorem constant_any (T : Value) (w : World) (hT : TableAt w T) : Calls Tryz.prog 228 #[T] w fun e w' => ∃ ao cap, e = .returned (.slice ao 2 cap) ∧ FieldsAt w' ao 2 [reg, .number] ∧ Below w.heap.size w w' := by
 obtain ⟨v0, v1, v2, v3, v4, v5, v6, v7, v8, v9, v10, v11, v12, v13, v14, v15, v16, v17, v18, v19, rfl, hF1, hF2, hF3, hF4⟩ := hT
 have o1 := hF1.one
 have o2 := hF2.one
 have o3 := hF3.one
 have o4 := hF4.one
 go_enter Tryz.func228, Tryz.ntmps228
 go_wp2
 go_ret
 exact ⟨_, _, rfl, fields_top (by exact ⟨(hF1.alloc _).alloc _, (hF4.alloc _).alloc _, trivial⟩) (by simp) rfl, ((Below.refl _ _).alloc (Nat.le_refl _) _).alloc (by simp) _⟩

set_option maxRecDepth 100000 in
set_option maxHeartbeats 800000 in
theorem both_any (T : Value) (w : World) (hT : TableAt w T) : Calls Tryz.prog 229 #[T] w fun e w' => ∃ ao cap, e = .returned (.slice ao 2 cap) ∧ FieldsAt w' ao 2 [reg, other] ∧ Below w.heap.size w w' := by
 obtain ⟨v0, v1, v2, v3, v4, v5, v6, v7, v8, v9, v10, v11, v12, v13, v14, v15, v16, v17, v18, v19, rfl, hF1, hF2, hF3, hF4⟩ := hT
 have o1 := hF1.one
 have o2 := hF2.one
 have o3 := hF3.one
 have o4 := hF4.one
 go_enter Tryz.func229, Tryz.ntmps229
 go_wp2
 go_ret
 exact ⟨_, _, rfl, fields_top (by exact ⟨(hF1.alloc _).alloc _, (hF2.alloc _).alloc _, trivial⟩) (by simp) rfl, ((Below.refl _ _).alloc (Nat.le_refl _) _).alloc (by simp) _⟩

set_option maxRecDepth 100000 in
set_option maxHeartbeats 800000 in
theorem hand_any (T : Value) (w : World) (hT : TableAt w T) : Calls Tryz.prog 234 #[T] w fun e w' => ∃ ao cap, e = .returned (.slice ao 2 cap) ∧ FieldsAt w' ao 2 [reg, slot] ∧ Below w.heap.size w w' := by
 obtain ⟨v0, v1, v2, v3, v4, v5, v6, v7, v8, v9, v10, v11, v12, v13, v14, v15, v16, v17, v18, v19, rfl, hF1, hF2, hF3, hF4⟩ := hT
 have o1 := hF1.one
 have o2 := hF2.one
 have o3 := hF3.one
 have o4 := hF4.one
 go_enter Tryz.func234, Tryz.ntmps234
 go_wp2
 go_ret
 exact ⟨_, _, rfl, fields_top (by exact ⟨(hF1.alloc _).alloc _, (hF3.alloc _).alloc _, trivial⟩) (by simp) rfl, ((Below.refl _ _).alloc (Nat.le_refl _) _).alloc (by simp) _⟩

set_option maxRecDepth 100000 in
set_option maxHeartbeats 800000 in
theorem none_any (T : Value) (w : World) (hT : TableAt w T) : Calls Tryz.prog 227 #[T] w fun e w' => ∃ ao cap, e = .returned (.slice ao 0 cap) ∧ FieldsAt w' ao 0 [] ∧ Below w.heap.size w w' := by
 obtain ⟨v0, v1, v2, v3, v4, v5, v6, v7, v8, v9, v10, v11, v12, v13, v14, v15, v16, v17, v18, v19, rfl, hF1, hF2, hF3, hF4⟩ := hT
 have o1 := hF1.one
 have o2 := hF2.one
 have o3 := hF3.one
 have o4 := hF4.one
 go_enter Tryz.func227, Tryz.ntmps227
 go_wp2
 go_ret
 exact ⟨_, _, rfl, ⟨rfl, fun i fk hi => by simp at hi⟩, (Below.refl _ _).alloc (Nat.le_refl _) _⟩

theorem Caps.ne {w : World} {k : Nat} {lo hi : Int} {b4 b5 b6 b7 B : Nat} (h : Caps w k lo hi b4 b5 b6 b7) (hB : w.cell? ⟨B, 0, none⟩ = some .nilFunc) : b4 ≠ B ∧ b5 ≠ B ∧ b6 ≠ B ∧ b7 ≠ B := by
 obtain ⟨s, hs, h7⟩ := h.c7
 refine ⟨?_, ?_, ?_, ?_⟩ <;> rintro rfl
 ·have := h.c4; rw [hB] at this; simp [fn0] at this
 ·have := h.c5; rw [hB] at this; simp at this
 ·have := h.c6; rw [hB] at this; simp at this
 ·rw [hB] at h7; simp at h7

theorem Caps.set {w : World} {k : Nat} {lo hi : Int} {b4 b5 b6 b7 B : Nat} (h : Caps w k lo hi b4 b5 b6 b7) (hne : b4 ≠ B ∧ b5 ≠ B ∧ b6 ≠ B ∧ b7 ≠ B) (j : Nat) (v : Value) : Caps (w.setCell ⟨B, j, none⟩ v) k lo hi b4 b5 b6 b7 := by
 obtain ⟨s, hs, h7⟩ := h.c7
 have hsz : (w.setCell ⟨B, j, none⟩ v).heap.size = w.heap.size := by simp [World.setCell]
 have far : ∀ b, b ≠ B → (w.setCell ⟨B, j, none⟩ v).cell? ⟨b, 0, none⟩ = w.cell? ⟨b, 0, none⟩ := fun b hb => World.cell?_setCell_far w ⟨B, j, none⟩ ⟨b, 0, none⟩ v (fun e => hb e.symm)
 exact ⟨(far _ hne.1).trans h.c4, (far _ hne.2.1).trans h.c5, (far _ hne.2.2.1).trans h.c6, ⟨s, hs, (far _ hne.2.2.2).trans h7⟩, by rw [hsz]; exact h.l4, by rw [hsz]; exact h.l5, by rw [hsz]; exact h.l6, by rw [hsz]; exact h.l7⟩

theorem Caps.alloc {w : World} {k : Nat} {lo hi : Int} {b4 b5 b6 b7 : Nat} (h : Caps w k lo hi b4 b5 b6 b7) (o : Obj) : Caps (w.alloc o) k lo hi b4 b5 b6 b7 := h.below ((Below.refl _ _).alloc (Nat.le_refl _) o) (Nat.le_refl _)

set_option maxRecDepth 100000 in
set_option maxHeartbeats 1600000 in
theorem bytes_any (w : World) : Calls Tryz.prog 270 #[] w fun e w' => ∃ v0 v1 v2 v3 v4, e = .returned (.agg #[v0, v1, v2, v3, v4]) ∧ FieldAt w' .bytes v0 v1 v2 v3 v4 ∧ Below w.heap.size w w' := by
 go_enter Tryz.func270, Tryz.ntmps270
 go_wp2_with (go_at_call 223; refine (small_fn _ _ _ _ _ (by decide) (by decide)).mono ?_; rintro e w1 ⟨v0, v1, v2, v3, v4, rfl, ⟨hk, b4, b5, b6, b7, hc, rfl, rfl, rfl, rfl, rfl⟩, hb1⟩; unfold f1 f2 f3 f4 f5 P0; have hs1 := hb1.size; have hr := res_cell hb1 (by simp); have hrf := res_frozen hb1 (by simp); have hlt : w.heap.size < w1.heap.size := (by simp at hs1; omega))
 have hne := hc.ne (hr 0)
 refine bodyPost_ret (v := .agg #[fn0 292, f2 b4, f3 b4, f4 b7 b4, f5 b7 b4]) (by simp [results, Tryz.results270, go_sem, f2, f3, f4, f5, P0, fn0, hr, hlt]) rfl ⟨_, _, _, _, _, rfl, ⟨b4, b5, b6, b7, (((((hc.set hne _ _).set hne _ _).set hne _ _).set hne _ _).set hne _ _).alloc _, rfl, rfl, rfl, rfl, rfl⟩, ?_⟩
 exact ((((((((Below.refl _ _).alloc (Nat.le_refl _) _).trans (hb1.mono (by simp))).setCell (Nat.le_refl _) _).setCell (Nat.le_refl _) _).setCell (Nat.le_refl _) _).setCell (Nat.le_refl _) _).setCell (Nat.le_refl _) _).alloc (by simp; omega) _

set_option maxRecDepth 100000 in
set_option maxHeartbeats 1600000 in
theorem skip_any (w : World) : Calls Tryz.prog 272 #[] w fun e w' => ∃ v0 v1 v2 v3 v4, e = .returned (.agg #[v0, v1, v2, v3, v4]) ∧ FieldAt w' .skip v0 v1 v2 v3 v4 ∧ Below w.heap.size w w' := by
 go_enter Tryz.func272, Tryz.ntmps272
 go_wp2_with (go_at_call 223; refine (small_fn _ _ _ _ _ (by decide) (by decide)).mono ?_; rintro e w1 ⟨v0, v1, v2, v3, v4, rfl, ⟨hk, b4, b5, b6, b7, hc, rfl, rfl, rfl, rfl, rfl⟩, hb1⟩; unfold f1 f2 f3 f4 f5 P0; have hs1 := hb1.size; have hr := res_cell hb1 (by simp); have hrf := res_frozen hb1 (by simp); have hlt : w.heap.size < w1.heap.size := (by simp at hs1; omega))
 have hne := hc.ne (hr 0)
 refine bodyPost_ret (v := .agg #[f1 b4 b5 b6, fn0 296, fn0 297, f4 b7 b4, f5 b7 b4]) (by simp [results, Tryz.results272, go_sem, f1, f4, f5, P0, fn0, hr, hlt]) rfl ⟨_, _, _, _, _, rfl, ⟨b4, b5, b6, b7, (((((hc.set hne _ _).set hne _ _).set hne _ _).set hne _ _).set hne _ _).alloc _, rfl, rfl, rfl, rfl, rfl⟩, ?_⟩
 exact ((((((((Below.refl _ _).alloc (Nat.le_refl _) _).trans (hb1.mono (by simp))).setCell (Nat.le_refl _) _).setCell (Nat.le_refl _) _).setCell (Nat.le_refl _) _).setCell (Nat.le_refl _) _).setCell (Nat.le_refl _) _).alloc (by simp; omega) _

set_option maxRecDepth 100000 in
set_option maxHeartbeats 1600000 in
theorem sign_any (w : World) : Calls Tryz.prog 271 #[] w fun e w' => ∃ v0 v1 v2 v3 v4, e = .returned (.agg #[v0, v1, v2, v3, v4]) ∧ FieldAt w' .sign v0 v1 v2 v3 v4 ∧ Below w.heap.size w w' := by
 go_enter Tryz.func271, Tryz.ntmps271
 go_wp2_with (go_at_call 226; refine (number_any _).mono ?_; rintro e w1 ⟨v0, v1, v2, v3, v4, rfl, ⟨rfl, rfl, rfl, rfl, rfl⟩, hb1⟩; unfold fn0; have hs1 := hb1.size; have hr := res_cell hb1 (by simp); have hrf := res_frozen hb1 (by simp); have hlt : w.heap.size < w1.heap.size := (by simp at hs1; omega))
 refine bodyPost_ret (v := .agg #[fn0 293, fn0 261, fn0 263, fn0 294, fn0 295]) (by simp [results, Tryz.results271, go_sem, fn0, hr, hlt]) rfl ⟨_, _, _, _, _, rfl, ⟨rfl, rfl, rfl, rfl, rfl⟩, ?_⟩
 exact ((((((((Below.refl _ _).alloc (Nat.le_refl _) _).trans (hb1.mono (by simp))).setCell (Nat.le_refl _) _).setCell (Nat.le_refl _) _).setCell (Nat.le_refl _) _).setCell (Nat.le_refl _) _).setCell (Nat.le_refl _) _).alloc (by simp; omega) _

theorem FieldAt.drew {w : World} {fk : FK} {v0 v1 v2 v3 v4 : Value} (h : FieldAt w fk v0 v1 v2 v3 v4) : FieldAt w.drew fk v0 v1 v2 v3 v4 := h.below (N := w.heap.size) (Below.refl _ _).drew (Nat.le_refl _)
theorem FieldAt.into {w w1 : World} {N : Nat} {fk : FK} {v0 v1 v2 v3 v4 : Value} {o : Obj} (h : FieldAt w fk v0 v1 v2 v3 v4) (hb : Below N (w.alloc o).drew w1) (hN : (w.alloc o).heap.size ≤ N) : FieldAt w1 fk v0 v1 v2 v3 v4 := (h.alloc o).drew.below hb hN
theorem below_into {w w1 : World} {N : Nat} {o : Obj} (hb : Below N (w.alloc o).drew w1) (hN : w.heap.size ≤ N) : Below w.heap.size w w1 := (((Below.refl _ _).alloc (Nat.le_refl _) o).drew).trans (hb.mono hN)

set_option maxRecDepth 100000 in
set_option maxHeartbeats 1600000 in
theorem shiftM_any (T : Value) (w : World) (hT : TableAt w T) : Calls Tryz.prog 230 #[T] w fun e w' => ∃ ao cap, e = .returned (.slice ao 2 cap) ∧ FieldsAt w' ao 2 [reg, .small 2 0 63] ∧ Below w.heap.size w w' := by
 obtain ⟨v0, v1, v2, v3, v4, v5, v6, v7, v8, v9, v10, v11, v12, v13, v14, v15, v16, v17, v18, v19, rfl, hF1, hF2, hF3, hF4⟩ := hT
 have o1 := hF1.one
 have o2 := hF2.one
 have o3 := hF3.one
 have o4 := hF4.one
 go_enter Tryz.func230, Tryz.ntmps230
 go_wp2_with fail
 go_region_with (go_at_call 223; refine (small_fn _ _ _ _ _ (by decide) (by decide)).mono ?_; rintro e w1 ⟨u0, u1, u2, u3, u4, rfl, hG, hb1⟩; have ou := hG.one; have hc := box_cell hb1 (by simp); have hs1 := hb1.size; have hs0 : w.heap.size < w1.heap.size := Nat.lt_of_lt_of_le (by simp) hs1; have hl := below_into hb1 (by simp); have hs := hl.size)
 all_goals go_wp2
 all_goals go_ret
 all_goals exact ⟨_, _, rfl, fields_top (by exact ⟨(hF1.into hb1 (Nat.le_refl _)).alloc _, hG.alloc _, trivial⟩) rfl rfl, hl.alloc (by omega) _⟩

set_option maxRecDepth 100000 in
set_option maxHeartbeats 1600000 in
theorem widthM_any (T : Value) (w : World) (hT : TableAt w T) : Calls Tryz.prog 233 #[T] w fun e w' => ∃ ao cap, e = .returned (.slice ao 2 cap) ∧ FieldsAt w' ao 2 [reg, .small 2 1 64] ∧ Below w.heap.size w w' := by
 obtain ⟨v0, v1, v2, v3, v4, v5, v6, v7, v8, v9, v10, v11, v12, v13, v14, v15, v16, v17, v18, v19, rfl, hF1, hF2, hF3, hF4⟩ := hT
 have o1 := hF1.one
 have o2 := hF2.one
 have o3 := hF3.one
 have o4 := hF4.one
 go_enter Tryz.func233, Tryz.ntmps233
 go_wp2_with fail
 go_region_with (go_at_call 223; refine (small_fn _ _ _ _ _ (by decide) (by decide)).mono ?_; rintro e w1 ⟨u0, u1, u2, u3, u4, rfl, hG, hb1⟩; have ou := hG.one; have hc := box_cell hb1 (by simp); have hs1 := hb1.size; have hs0 : w.heap.size < w1.heap.size := Nat.lt_of_lt_of_le (by simp) hs1; have hl := below_into hb1 (by simp); have hs := hl.size)
 all_goals go_wp2
 all_goals go_ret
 all_goals exact ⟨_, _, rfl, fields_top (by exact ⟨(hF1.into hb1 (Nat.le_refl _)).alloc _, hG.alloc _, trivial⟩) rfl rfl, hl.alloc (by omega) _⟩

set_option maxRecDepth 100000 in
set_option maxHeartbeats 1600000 in
theorem moveM_any (T : Value) (w : World) (hT : TableAt w T) : Calls Tryz.prog 231 #[T] w fun e w' => ∃ ao cap, e = .returned (.slice ao 3 cap) ∧ FieldsAt w' ao 3 [reg, .small 1 0 7, .bytes] ∧ Below w.heap.size w w' := by
 obtain ⟨v0, v1, v2, v3, v4, v5, v6, v7, v8, v9, v10, v11, v12, v13, v14, v15, v16, v17, v18, v19, rfl, hF1, hF2, hF3, hF4⟩ := hT
 have o1 := hF1.one
 have o2 := hF2.one
 have o3 := hF3.one
 have o4 := hF4.one
 go_enter Tryz.func231, Tryz.ntmps231
 go_wp2_with fail
 go_region_with (first | (go_at_call 223; refine (small_fn _ _ _ _ _ (by decide) (by decide)).mono ?_; rintro e w1 ⟨u0, u1, u2, u3, u4, rfl, hG, hb1⟩; have ou := hG.one; have hc := box_cell hb1 (by simp); have hs1 := hb1.size; have hs0 : w.heap.size < w1.heap.size := Nat.lt_of_lt_of_le (by simp) hs1; have hl := below_into hb1 (by simp); have hs := hl.size) | (go_at_call 270; refine (bytes_any _).mono ?_; rintro e w2 ⟨u5, u6, u7, u8, u9, rfl, hG2, hb2⟩; have ou2 := hG2.one; have hc2 := fun j => (hb2.cell (p := ⟨w.heap.size, j, none⟩) hs0).trans (hc j); have hs2 := hb2.size; have hl2 := hl.trans (hb2.mono hs)))
 all_goals have hs3 := hl2.size
 all_goals go_wp2
 all_goals go_ret
 all_goals exact ⟨_, _, rfl, fields_top (by exact ⟨((hF1.into hb1 (Nat.le_refl _)).below hb2 (Nat.le_refl _)).alloc _, (hG.below hb2 (Nat.le_refl _)).alloc _, hG2.alloc _, trivial⟩) rfl rfl, hl2.alloc (by omega) _⟩

set_option maxRecDepth 100000 in
set_option maxHeartbeats 1600000 in
theorem fitsM_any (T : Value) (w : World) (hT : TableAt w T) : Calls Tryz.prog 235 #[T] w fun e w' => ∃ ao cap, e = .returned (.slice ao 4 cap) ∧ FieldsAt w' ao 4 [reg, slot, .small 2 1 64, .sign] ∧ Below w.heap.size w w' := by
 obtain ⟨v0, v1, v2, v3, v4, v5, v6, v7, v8, v9, v10, v11, v12, v13, v14, v15, v16, v17, v18, v19, rfl, hF1, hF2, hF3, hF4⟩ := hT
 have o1 := hF1.one
 have o2 := hF2.one
 have o3 := hF3.one
 have o4 := hF4.one
 go_enter Tryz.func235, Tryz.ntmps235
 go_wp2_with fail
 go_region_with (first | (go_at_call 223; refine (small_fn _ _ _ _ _ (by decide) (by decide)).mono ?_; rintro e w1 ⟨u0, u1, u2, u3, u4, rfl, hG, hb1⟩; have ou := hG.one; have hc := box_cell hb1 (by simp); have hs1 := hb1.size; have hs0 : w.heap.size < w1.heap.size := Nat.lt_of_lt_of_le (by simp) hs1; have hl := below_into hb1 (by simp); have hs := hl.size) | (go_at_call 271; refine (sign_any _).mono ?_; rintro e w2 ⟨u5, u6, u7, u8, u9, rfl, hG2, hb2⟩; have ou2 := hG2.one; have hc2 := fun j => (hb2.cell (p := ⟨w.heap.size, j, none⟩) hs0).trans (hc j); have hs2 := hb2.size; have hl2 := hl.trans (hb2.mono hs)))
 all_goals have hs3 := hl2.size
 all_goals go_wp2
 all_goals go_ret
 all_goals exact ⟨_, _, rfl, fields_top (by exact ⟨((hF1.into hb1 (Nat.le_refl _)).below hb2 (Nat.le_refl _)).alloc _, ((hF3.into hb1 (Nat.le_refl _)).below hb2 (Nat.le_refl _)).alloc _, (hG.below hb2 (Nat.le_refl _)).alloc _, hG2.alloc _, trivial⟩) rfl rfl, hl2.alloc (by omega) _⟩

set_option maxRecDepth 100000 in
set_option maxHeartbeats 1600000 in
theorem unlessM_any (T : Value) (w : World) (hT : TableAt w T) : Calls Tryz.prog 237 #[T] w fun e w' => ∃ ao cap, e = .returned (.slice ao 3 cap) ∧ FieldsAt w' ao 3 [reg, .skip, .number] ∧ Below w.heap.size w w' := by
 obtain ⟨v0, v1, v2, v3, v4, v5, v6, v7, v8, v9, v10, v11, v12, v13, v14, v15, v16, v17, v18, v19, rfl, hF1, hF2, hF3, hF4⟩ := hT
 have o1 := hF1.one
 have o2 := hF2.one
 have o3 := hF3.one
 have o4 := hF4.one
 go_enter Tryz.func237, Tryz.ntmps237
 go_wp2_with fail
 go_region_with (go_at_call 272; refine (skip_any _).mono ?_; rintro e w1 ⟨u0, u1, u2, u3, u4, rfl, hG, hb1⟩; have ou := hG.one; have hc := box_cell hb1 (by simp); have hs1 := hb1.size; have hs0 : w.heap.size < w1.heap.size := Nat.lt_of_lt_of_le (by simp) hs1; have hl := below_into hb1 (by simp); have hs := hl.size)
 all_goals go_wp2
 all_goals go_ret
 all_goals exact ⟨_, _, rfl, fields_top (by exact ⟨(hF1.into hb1 (Nat.le_refl _)).alloc _, hG.alloc _, (hF4.into hb1 (Nat.le_refl _)).alloc _, trivial⟩) rfl rfl, hl.alloc (by omega) _⟩

end Code
end Go.Proofs.YtegjeincncccaaaGreatDoor
