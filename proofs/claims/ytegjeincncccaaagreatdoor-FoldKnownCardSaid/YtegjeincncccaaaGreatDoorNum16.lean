/- Go's library: strconv.FormatUint at base 16 answers some text; it leaves what lay there. -/
import Derived.Test.YtegjeincncccaaaGreatDoorBase2
import Derived.Laws.IdiomStrings
import Derived.Laws.BitsAllLaws
import Derived.Laws.Slices
namespace Go.Proofs.YtegjeincncccaaaGreatDoor
open Go.RowKit

namespace Code

theorem tz64_16 (w : World) (h : w.cell? ⟨9, 15, none⟩ = some (.int .u8 4)) :
    Calls Tryz.prog 325 #[.int .u64 16] w fun e w' => e = .returned (.int .i64 4) ∧ w' = w := by
 have e1 : bits BinOp.and IntKind.u64 16 (IntKind.u64.wrap (-16)) = 16 := by kernel_rfl
 have e2 : IntKind.u64.wrap 4573923408821661840 = 4573923408821661840 := by kernel_rfl
 go_enter Tryz.func325, Tryz.ntmps325
 go_wp2
 go_ret
 exact ⟨rfl, rfl⟩

theorem tz_16 (w : World) (h : w.cell? ⟨9, 15, none⟩ = some (.int .u8 4)) :
    Calls Tryz.prog 323 #[.int .u64 16] w fun e w' => e = .returned (.int .i64 4) ∧ w' = w := by
 have H := Lib.hid h
 clear h
 go_enter Tryz.func323, Tryz.ntmps323
 go_wp2_with (go_at_call 325; refine (tz64_16 _ H.out).mono ?_; rintro e w' ⟨rfl, rfl⟩)
 go_ret
 exact ⟨rfl, rfl⟩

theorem isPow16 (w : World) : Calls Tryz.prog 322 #[.int .i64 16] w fun e w' => e = .returned (.bool true) ∧ w' = w := by
 go_enter Tryz.func322, Tryz.ntmps322
 go_wp2
 go_ret
 exact ⟨rfl, rfl⟩

/-- a row of 65 bytes -/
structure Row65 (w : World) (B : Nat) : Prop where
 ex : ∃ C, w.heap[B]? = some (.cells C 396 (0, 0)) ∧ C.size = 65 ∧ ∀ j, j < 65 → ∃ b : UInt8, C[j]? = some (.int .u8 (b.toNat : Int))

theorem Row65.set {w : World} {B : Nat} (h : Row65 w B) (k : Nat) (b : UInt8) : Row65 (w.setCell ⟨B, k, none⟩ (.int .u8 (b.toNat : Int))) B := by
 obtain ⟨C, h1, h2, h3⟩ := h
 refine ⟨_, blk_setCell h1 _, by simp [h2], fun j hj => ?_⟩
 by_cases e : j = k
 ·subst e; exact ⟨b, by simp [h2, hj]⟩
 ·obtain ⟨c, hc⟩ := h3 j hj
  exact ⟨c, by rw [Array.getElem?_setIfInBounds_ne (by omega)]; exact hc⟩

theorem Row65.cell {w : World} {B : Nat} (h : Row65 w B) (k : Nat) (hk : k < 65) : ∃ b : UInt8, w.cell? ⟨B, k, none⟩ = some (.int .u8 (b.toNat : Int)) := by
 obtain ⟨C, h1, h2, h3⟩ := h
 obtain ⟨c, hc⟩ := h3 k hk
 exact ⟨c, by rw [cell_of_row _ _ _ _ _ _ h1]; exact hc⟩

theorem Row65.free {w : World} {B : Nat} (h : Row65 w B) (k : Nat) : w.frozen? ⟨B, k, none⟩ = false := by
 obtain ⟨C, h1, h2, h3⟩ := h
 exact frozen_blk h1

theorem Row65.lt {w : World} {B : Nat} (h : Row65 w B) : B < w.heap.size := by
 obtain ⟨C, h1, h2, h3⟩ := h
 exact lt_of_block h1

theorem Row65.text {w : World} {B : Nat} (h : Row65 w B) (k : Nat) (hk : k ≤ 65) : ∃ s : ByteArray, s.size ≤ 65 ∧ (convert 32 9 (.slice (some ⟨B, k, none⟩) (65 - k) (65 - k))).run Tryz.prog w = .ok (.string s) w := by
 obtain ⟨f, hf⟩ : ∃ f : Nat → UInt8, ∀ j, j < 65 → w.cell? ⟨B, j, none⟩ = some (.int .u8 ((f j).toNat : Int)) :=
  ⟨fun j => if hj : j < 65 then (h.cell j hj).choose else 0, fun j hj => by simp only [dif_pos hj]; exact (h.cell j hj).choose_spec⟩
 have hl : ((List.range (65 - k)).map (fun j => f (k + j))).length = 65 - k := by simp
 have := run_convert_bytes_back (P := Tryz.prog) w 32 9 5 ⟨B, k, none⟩ (65 - k) ((List.range (65 - k)).map (fun j => f (k + j))) Tryz.underlying32 Tryz.underlying5 Tryz.underlying9 (fun j hj => by
  have e : (⟨B, k, none⟩ : Addr).add j = ⟨B, k + j, none⟩ := by unfold Addr.add; split <;> simp_all
  rw [e, hf (k + j) (by simp at hj; omega)]
  simp)
 rw [hl] at this
 exact ⟨_, by show ((List.range (65 - k)).map (fun j => f (k + j))).length ≤ 65; omega, this⟩

theorem row65_new (w : World) : Row65 (w.alloc (.cells (Array.replicate 65 (.int .u8 0)) 396)) w.heap.size :=
 ⟨_, heap_alloc_new w _, by simp, fun j hj => ⟨0, by simp [hj]⟩⟩

def digs : ByteArray := { data := #[48, 49, 50, 51, 52, 53, 54, 55, 56, 57, 97, 98, 99, 100, 101, 102, 103, 104, 105, 106, 107, 108, 109, 110, 111, 112, 113, 114, 115, 116, 117, 118, 119, 120, 121, 122] }

theorem digit_at (d : Nat) (hd : d < 36) : ∃ b : UInt8, ∀ w : World, (Instr.index 9 (.string digs) (.int .u64 (d : Int))).run Tryz.prog w = .ok (.int .u8 (b.toNat : Int)) w := by
 have hs : digs.size = 36 := rfl
 refine ⟨digs[d], fun w => ?_⟩
 have : (d : Int) < (digs.size : Int) := by rw [hs]; omega
 go_simp
 rw [dif_pos (by omega)]; rfl

theorem and15 (m : Nat) (h : m < 18446744073709551616) : bits .and .u64 (m : Int) 15 = ((m % 16 : Nat) : Int) := by
 have := u64_and_nat m 15 h (by omega)
 rw [show ((15 : Nat) : Int) = 15 from rfl] at this
 rw [this, Nat.and_two_pow_sub_one_eq_mod m 4]

set_option maxRecDepth 100000 in
set_option maxHeartbeats 1600000 in
theorem fmtBits (n : Nat) (hn : n < 18446744073709551616) (w : World) (hlt : 9 < w.heap.size) (ht : w.cell? ⟨9, 15, none⟩ = some (.int .u8 4)) :
    Calls Tryz.prog 315 #[.slice none 0 0, .int .u64 n, .int .i64 16, .bool false, .bool false] w fun e w' => ∃ s : ByteArray, s.size ≤ 65 ∧ e = .returned (.tuple #[.slice none 0 0, .string s]) ∧ Below w.heap.size w w' := by
 have HN := Lib.hid hn
 have HT := Lib.hid ht
 have HL := Lib.hid hlt
 clear hn ht hlt
 go_enter Tryz.func315, Tryz.ntmps315
 go_wp2_with (first
  | (go_at_call 322; refine (isPow16 _).mono ?_; rintro e w' ⟨rfl, rfl⟩)
  | (go_at_call 323; refine (tz_16 _ ?_).mono ?_; exact (World.cell?_alloc_lt _ _ _ HL.out).trans HT.out; rintro e w' ⟨rfl, rfl⟩))
 go_loopw [1, 13] (fun u i wr => ∃ m k : Nat, u = .int .u64 m ∧ i = .int .i64 k ∧ m < 16 ^ (k - 49) ∧ 50 ≤ k ∧ k ≤ 65 ∧ Row65 wr w.heap.size ∧ Below w.heap.size w wr)
  (fun u i _ => (intOf i).toNat)
 case atStart => exact ⟨n, 65, rfl, rfl, by have := HN.out; simpa using this, by omega, by omega, row65_new w, (Below.refl _ _).alloc (Nat.le_refl _) _⟩
 case round =>
  obtain ⟨m, k, rfl, rfl, hm, hk, hk2, hrow, hb⟩ := hrel
  obtain ⟨j, rfl⟩ : ∃ j, k = j + 1 := ⟨k - 1, by omega⟩
  have hm64 : m < 18446744073709551616 := by
   have : 16 ^ (j + 1 - 49) ≤ 16 ^ 16 := Nat.pow_le_pow_right (by omega) (by omega)
   omega
  have hw : IntKind.i64.wrap (((j + 1 : Nat) : Int) - 1) = (j : Int) := by rw [IntWalk.i64_in _ (by omega)]; omega
  obtain ⟨b0, hc0⟩ := hrow.cell j (by omega)
  have hf0 := hrow.free j
  have hB := hrow.lt
  have HM := Lib.hid hm
  have HR := Lib.hid hrow
  have HB := Lib.hid hb
  clear hm hrow hb
  by_cases h16 : 16 ≤ m
  ·have ha := and15 m hm64
   have hd : m % 16 < 36 := by omega
   have hj : 50 ≤ j := by
    apply Nat.le_of_not_lt
    intro h
    have := HM.out
    rw [show j + 1 - 49 = 1 by omega] at this
    omega
   have hd0 : m / 16 < 16 ^ (j - 49) := by
    have := HM.out
    rw [show j + 1 - 49 = (j - 49) + 1 by omega, Nat.pow_succ] at this
    omega
   have HD := Lib.hid hd0
   clear hd0
   generalize hk : m % 16 = d at *
   obtain ⟨b1, hix⟩ := digit_at d hd
   unfold digs at hix
   have HK := Lib.hid hk
   clear hk
   go_wp2
   go_roundw
   case rel => exact ⟨m / 16, j, by go_num, rfl, HD.out, by omega, by omega, HR.out.set j b1, HB.out.setCell (Nat.le_refl _) _⟩
   case measure => simp [intOf]
  ·obtain ⟨b1, hix⟩ := digit_at m (by omega)
   unfold digs at hix
   obtain ⟨s, hsz, hcv⟩ := (HR.out.set j b1).text j (by omega)
   have HS := Lib.hid hsz
   clear hsz
   have hal : Tryz.prog.arrayLen 396 = 65 := by kernel_rfl
   have hsl : ∀ W, (Instr.sliceAt 396 (.pointer (some ⟨w.heap.size, 0, none⟩)) (some (.int .i64 (j : Int))) none none).run Tryz.prog W = .ok (.slice (some ⟨w.heap.size, j, none⟩) (65 - j) (65 - j)) W := fun W => by
    rw [run_sliceAt_array_l W 396 ⟨w.heap.size, 0, none⟩ (by kernel_rfl) .i64 (j : Int) (by omega) (by rw [hal]; omega)]
    rw [hal]
    go_simp
    omega
   clear hal
   go_wp2
   go_ret2
   first | exact ⟨⟨s, HS.out, rfl⟩, HB.out.setCell (Nat.le_refl _) _⟩ | exact ⟨s, HS.out, rfl, HB.out.setCell (Nat.le_refl _) _⟩ | exact ⟨s, ⟨HS.out, rfl⟩, HB.out.setCell (Nat.le_refl _) _⟩ | trace_state

/-- some text is answered -/
def SomeText (m : Nat) (w : World) (e : Ending) (w' : World) : Prop := ∃ s : ByteArray, s.size ≤ m ∧ e = .returned (.string s) ∧ Below w.heap.size w w'

theorem fmtUint0 (n : Nat) (hn : n < 18446744073709551616) (w : World) (hlt : 9 < w.heap.size) (ht : w.cell? ⟨9, 15, none⟩ = some (.int .u8 4)) :
    Calls Tryz.prog 290 #[.int .u64 n, .int .i64 16] w (SomeText 65 w) := by
 have HN := Lib.hid hn
 have HT := Lib.hid ht
 have HL := Lib.hid hlt
 clear hn ht hlt
 go_enter Tryz.func290, Tryz.ntmps290
 go_wp2_with (go_at_call 315; refine (fmtBits n HN.out _ HL.out HT.out).mono ?_; rintro e w1 ⟨s, hs, rfl, hb1⟩)
 go_ret
 exact ⟨s, hs, rfl, hb1⟩

theorem fmtUint (n : Nat) (hn : n < 18446744073709551616) (w : World) (hlt : 9 < w.heap.size) (ht : w.cell? ⟨9, 15, none⟩ = some (.int .u8 4)) :
    Calls Tryz.prog 266 #[.int .u64 n, .int .i64 16] w (SomeText 65 w) := by
 have HN := Lib.hid hn
 have HT := Lib.hid ht
 have HL := Lib.hid hlt
 clear hn ht hlt
 go_enter Tryz.func266, Tryz.ntmps266
 go_wp2_with (go_at_call 290; refine (fmtUint0 n HN.out _ HL.out HT.out).mono ?_; rintro e w1 ⟨s, hs, rfl, hb1⟩)
 go_ret
 exact ⟨s, hs, rfl, hb1⟩

end Code
end Go.Proofs.YtegjeincncccaaaGreatDoor
