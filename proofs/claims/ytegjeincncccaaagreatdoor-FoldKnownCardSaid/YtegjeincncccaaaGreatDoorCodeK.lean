/- Package code: an instruction's text: some text is answered, or the error. -/
import Derived.Test.YtegjeincncccaaaGreatDoorCodeJ
import Derived.Test.YtegjeincncccaaaGreatDoorNum16
import Derived.Lib.ItoaMem
import Derived.Lib.ItoaLen
namespace Go.Proofs.YtegjeincncccaaaGreatDoor
open Go.RowKit

namespace Code

attribute [local go_sem ↓] Go.wp_at_zero Go.wp_at_succ

/-- a table of the library that lies below is there still -/
theorem tabIs_below {P : Program} {N : Nat} {w w' : World} {name : String} {k : IntKind} {zs : List Int} (h : Lib.TabIs P w name k zs) (hb : Below N w w') (hN : w.heap.size ≤ N) : Lib.TabIs P w' name k zs := by
 unfold Lib.TabIs World.var? at *
 cases hg : P.globalNamed name with
 | none => simp [hg] at h
 | some g =>
  simp only [hg, Option.bind_some] at h ⊢
  have hlt : g < w.heap.size := by
   rcases Nat.lt_or_ge g w.heap.size with h' | h'
   ·exact h'
   ·simp [Array.getElem?_eq_none h'] at h
  rw [hb.block g (Nat.lt_of_lt_of_le hlt hN)]
  exact h

/-- the library's tables -/
structure Tabs (w : World) : Prop where
 pow : Lib.TabIs Tryz.prog w "internal/strconv.uint64pow10" .u64 Lib.pow10Tab
 spc : Lib.TabIs Tryz.prog w "strings.asciiSpace" .u8 Lib.asciiSpaceTab
 tz : w.cell? ⟨9, 15, none⟩ = some (.int .u8 4)

theorem Tabs.lt {w : World} (h : Tabs w) : 9 < w.heap.size := World.block_lt_of_cell? w _ h.tz

theorem Tabs.below {N : Nat} {w w' : World} (h : Tabs w) (hb : Below N w w') (hN : w.heap.size ≤ N) : Tabs w' :=
 ⟨tabIs_below h.pow hb hN, tabIs_below h.spc hb hN, (hb.cell (p := ⟨9, 15, none⟩) (Nat.lt_of_lt_of_le h.lt hN)).trans h.tz⟩

theorem Tabs.drew {w : World} (h : Tabs w) : Tabs w.drew := h.below (N := w.heap.size) (Below.refl _ _).drew (Nat.le_refl _)
theorem Tabs.alloc {w : World} (h : Tabs w) (o : Obj) : Tabs (w.alloc o) := h.below (N := w.heap.size) ((Below.refl _ _).alloc (Nat.le_refl _) o) (Nat.le_refl _)

theorem below_grow {N : Nat} {w w' : World} {os : Array Obj} (h : Below N w w') (hN : N ≤ w'.heap.size) : Below N w (Go.Sort.grow w' os) :=
 h.trans ⟨rfl, rfl, rfl, by simp [Go.Sort.grow], fun k hk => by simp only [Go.Sort.grow]; rw [Array.getElem?_append_left (by omega)]⟩

theorem itoa_any (n : Int) (h : B.In64 n) (w : World) (ht : Tabs w) : Calls Tryz.prog 256 #[.int .i64 n] w (SomeText 21 w) := by
 unfold B.In64 at h
 refine (Tryz.strconv_Itoa n h.1 h.2 w ht.pow).mono ?_
 rintro e w' ⟨rfl, k, os, rfl⟩
 refine ⟨⟨(Lib.itoa n).toArray⟩, ?_, rfl, ?_⟩
 ·exact Lib.itoa_length_le n h.1 h.2
 ·exact below_grow (belowN (Below.refl _ _) _) (by rw [show (w.drewN k).heap = w.heap from rfl]; exact Nat.le_refl _)

set_option maxRecDepth 100000 in
set_option maxHeartbeats 1600000 in
theorem text_number (x : B.Ins) (hx : B.InU64 x.imm) (w : World) (ht : Tabs w) : Calls Tryz.prog 265 #[valI x] w (SomeText 80 w) := by
 unfold B.InU64 at hx
 obtain ⟨m, hm⟩ : ∃ m : Nat, x.imm = m := ⟨x.imm.toNat, by omega⟩
 have hm64 : m < 18446744073709551616 := by omega
 have HT := Lib.hid ht
 unfold valI
 rw [hm]
 clear hx ht hm
 go_enter Tryz.func265, Tryz.ntmps265
 go_wp2_with (go_at_call 266; refine (fmtUint m hm64 _ (HT.out.alloc _).lt (HT.out.alloc _).tz).mono ?_; rintro e w1 ⟨s, hs, rfl, hb1⟩)
 go_ret
 exact ⟨_, by (rw [ByteArray.size_append]; have h2 : (ByteArray.mk #[48, 120]).size = 2 := rfl; omega), rfl, ((Below.refl _ _).alloc (Nat.le_refl _) _).trans (hb1.mono (by simp))⟩

theorem text_sign (x : B.Ins) (w : World) : Calls Tryz.prog 294 #[valI x] w (SomeText 80 w) := by
 unfold valI
 by_cases h : x.imm = 1
 ·rw [h]
  go_enter Tryz.func294, Tryz.ntmps294
  go_wp2
  go_ret
  exact ⟨_, by decide, rfl, (Below.refl _ _).alloc (Nat.le_refl _) _⟩
 ·have hd : (x.imm == 1) = false := by simpa using h
  go_enter Tryz.func294, Tryz.ntmps294
  go_wp2
  go_ret
  exact ⟨_, by decide, rfl, (Below.refl _ _).alloc (Nat.le_refl _) _⟩

/-- what the text of a small field reads -/
def TextIn (f b4 b7 X j : Nat) (s : ByteArray) (v : Int) (w : World) : Prop :=
 w.cell? ⟨b4, 0, none⟩ = some (.func (.func f) #[] #[]) ∧ w.cell? ⟨b7, 0, none⟩ = some (.string s) ∧ w.cell? ⟨X, j, none⟩ = some (.int .i64 v)

theorem TextIn.below {f b4 b7 X j : Nat} {s : ByteArray} {v : Int} {w w' : World} {N : Nat} (h : TextIn f b4 b7 X j s v w) (hb : Below N w w') (hN : w.heap.size ≤ N) : TextIn f b4 b7 X j s v w' :=
 ⟨(hb.cell (p := ⟨b4, 0, none⟩) (Nat.lt_of_lt_of_le (World.block_lt_of_cell? w _ h.1) hN)).trans h.1, (hb.cell (p := ⟨b7, 0, none⟩) (Nat.lt_of_lt_of_le (World.block_lt_of_cell? w _ h.2.1) hN)).trans h.2.1,
  (hb.cell (p := ⟨X, j, none⟩) (Nat.lt_of_lt_of_le (World.block_lt_of_cell? w _ h.2.2) hN)).trans h.2.2⟩

theorem textIn_new {f b4 b7 j : Nat} {s : ByteArray} {v : Int} {w : World} (C : Array Value) (t : TypeId) (h4 : w.cell? ⟨b4, 0, none⟩ = some (.func (.func f) #[] #[])) (h7 : w.cell? ⟨b7, 0, none⟩ = some (.string s)) (hC : C[j]? = some (.int .i64 v)) :
    TextIn f b4 b7 w.heap.size j s v (w.alloc (.cells C t)).drew := by
 refine ⟨?_, ?_, ?_⟩
 ·exact (World.cell?_alloc_lt _ _ _ (World.block_lt_of_cell? w _ h4)).trans h4
 ·exact (World.cell?_alloc_lt _ _ _ (World.block_lt_of_cell? w _ h7)).trans h7
 ·exact (cell_of_row _ _ _ _ _ _ (heap_alloc_new w _)).trans hC

set_option maxRecDepth 100000 in
set_option maxHeartbeats 3200000 in
theorem text_small (k : Nat) (hk : k ≤ 2) (b7 b4 : Nat) (s : ByteArray) (x : B.Ins) (hx : x.Wf) (hs : s.size ≤ 1) (w : World) (ht : Tabs w) (h4 : w.cell? ⟨b4, 0, none⟩ = some (fn0 (atFn k))) (h7 : w.cell? ⟨b7, 0, none⟩ = some (.string s)) :
    Calls Tryz.prog 255 #[valI x, P0 b7, P0 b4] w (SomeText 80 w) := by
 have HT := Lib.hid ht
 have HX := Lib.hid hx
 have hl4 := World.block_lt_of_cell? w _ h4
 have hl7 := World.block_lt_of_cell? w _ h7
 simp only at hl4 hl7
 unfold valI P0
 clear ht hx
 rcases (show k = 0 ∨ k = 1 ∨ k = 2 by omega) with rfl | rfl | rfl
 ·have e : fn0 (atFn 0) = .func (.func 224) #[] #[] := rfl
  rw [e] at h4; clear e
  go_enter Tryz.func255, Tryz.ntmps255
  go_wp2_with fail
  go_region_held3 (fun w' => w'.cell? ⟨b4, 0, none⟩ = some (.func (.func 224) #[] #[]) ∧ w'.cell? ⟨b7, 0, none⟩ = some (.string s) ∧ w'.cell? ⟨w.heap.size, 1, none⟩ = some (.int .i64 x.a))
   (first | exact textIn_new _ _ h4 h7 rfl | exact TextIn.below (by assumption) hb1 (Nat.le_refl _) | assumption)
   (first
    | (go_at_call 224; refine (fieldA_any _ _ _).mono ?_; rintro e w1 ⟨rfl, rfl⟩)
    | (go_at_call 256; refine (itoa_any _ HX.out.a _ (HT.out.alloc _).drew).mono ?_; rintro e w1 ⟨s1, hs1, rfl, hb1⟩; have hcat : ¬ (9223372036854775807 < s.size + s1.size) := by omega))
  all_goals go_wp2
  all_goals go_ret
  all_goals exact ⟨_, by (rw [ByteArray.size_append]; omega), rfl, below_into hb1 (by simp)⟩
 ·have e : fn0 (atFn 1) = .func (.func 225) #[] #[] := rfl
  rw [e] at h4; clear e
  go_enter Tryz.func255, Tryz.ntmps255
  go_wp2_with fail
  go_region_held3 (fun w' => w'.cell? ⟨b4, 0, none⟩ = some (.func (.func 225) #[] #[]) ∧ w'.cell? ⟨b7, 0, none⟩ = some (.string s) ∧ w'.cell? ⟨w.heap.size, 2, none⟩ = some (.int .i64 x.b))
   (first | exact textIn_new _ _ h4 h7 rfl | exact TextIn.below (by assumption) hb1 (Nat.le_refl _) | assumption)
   (first
    | (go_at_call 225; refine (fieldB_any _ _ _).mono ?_; rintro e w1 ⟨rfl, rfl⟩)
    | (go_at_call 256; refine (itoa_any _ HX.out.b _ (HT.out.alloc _).drew).mono ?_; rintro e w1 ⟨s1, hs1, rfl, hb1⟩; have hcat : ¬ (9223372036854775807 < s.size + s1.size) := by omega))
  all_goals go_wp2
  all_goals go_ret
  all_goals exact ⟨_, by (rw [ByteArray.size_append]; omega), rfl, below_into hb1 (by simp)⟩
 ·have e : fn0 (atFn 2) = .func (.func 269) #[] #[] := rfl
  rw [e] at h4; clear e
  go_enter Tryz.func255, Tryz.ntmps255
  go_wp2_with fail
  go_region_held3 (fun w' => w'.cell? ⟨b4, 0, none⟩ = some (.func (.func 269) #[] #[]) ∧ w'.cell? ⟨b7, 0, none⟩ = some (.string s) ∧ w'.cell? ⟨w.heap.size, 3, none⟩ = some (.int .i64 x.n))
   (first | exact textIn_new _ _ h4 h7 rfl | exact TextIn.below (by assumption) hb1 (Nat.le_refl _) | assumption)
   (first
    | (go_at_call 269; refine (fieldN_any _ _ _).mono ?_; rintro e w1 ⟨rfl, rfl⟩)
    | (go_at_call 256; refine (itoa_any _ HX.out.n _ (HT.out.alloc _).drew).mono ?_; rintro e w1 ⟨s1, hs1, rfl, hb1⟩; have hcat : ¬ (9223372036854775807 < s.size + s1.size) := by omega))
  all_goals go_wp2
  all_goals go_ret
  all_goals exact ⟨_, by (rw [ByteArray.size_append]; omega), rfl, below_into hb1 (by simp)⟩

end Code
end Go.Proofs.YtegjeincncccaaaGreatDoor
