/- Package code: fields are read again: the reader's steps. -/
import Derived.Test.YtegjeincncccaaaGreatDoorCodeB
import Derived.Test.YtegjeincncccaaaGreatDoorShelf
import Derived.BigQuiet
import Derived.IntWalk
import Derived.Laws.BitsAllLaws
import Derived.Laws.MathBits
import Derived.Deep.RegionHeld
namespace Go.Proofs.YtegjeincncccaaaGreatDoor
open Go.RowKit

namespace Code

attribute [local go_sem ↓] Go.wp_at_zero Go.wp_at_succ

def rdCells (ao : Option Addr) (n cap : Nat) (at_ : Nat) (x : B.Ins) : Array Value :=
 #[.slice ao n cap, .int .i64 at_, .int .i64 x.op, .int .i64 x.a, .int .i64 x.b, .int .i64 x.n, .int .u64 x.imm, .nilIface]

/-- a reader in memory -/
structure RdAt (w : World) (base Rb : Nat) (bytes : List Nat) (at_ : Nat) (x : B.Ins) : Prop where
 ex : ∃ ao n cap, w.heap[Rb]? = some (.cells (rdCells ao n cap at_ x) 321 (0, 0)) ∧
  n = bytes.length ∧ w.ownsRow base 5 1 (.slice ao n cap) n (bytes.map byteV)
 lo : base ≤ Rb

theorem own_cell {w : World} {base : Nat} {bs : List Nat} {ao : Option Addr} {n cap i c : Nat} (h : w.ownsRow base 5 1 (.slice ao n cap) n (bs.map byteV)) (hi : bs[i]? = some c) :
    ∃ g, ao = some ⟨g, 0, none⟩ ∧ base ≤ g ∧ g < w.heap.size ∧ w.cell? ⟨g, i, none⟩ = some (byteV c) := by
 have hi' := (List.getElem?_eq_some_iff.1 hi).1
 have hlen := h.1
 rcases h.2 with ⟨hv, hn⟩ | ⟨g, cap', cur, hv, hg, hh, _⟩
 ·rw [List.length_map] at hlen; omega
 ·cases hv
  have hlt : g < w.heap.size := (Array.getElem?_eq_some_iff.1 hh).1
  refine ⟨g, rfl, hg, hlt, ?_⟩
  have := h.cells (g := g) rfl i (byteV c) (by simp [hi])
  rw [Addr.add] at this
  split at this
  ·rename_i h0; rw [h0]; exact this
  ·simpa using this

set_option maxRecDepth 100000 in
set_option maxHeartbeats 3200000 in
theorem rd_one (Rb base : Nat) (bytes : List Nat) (i c : Nat) (x : B.Ins) (w : World) (hr : RdAt w base Rb bytes i x) (hc : bytes[i]? = some c) (hlen : bytes.length ≤ 100) (hc256 : c < 256) :
    Calls Tryz.prog 254 #[P0 Rb] w fun e w' => e = .returned (.int .i64 c) ∧ RdAt w' base Rb bytes (i + 1) x ∧ Below base w w' := by
 obtain ⟨⟨ao, n, cap, hblk, hn, hown⟩, hlo⟩ := hr
 obtain ⟨g, rfl, hg0, hg1, hgc⟩ := own_cell hown hc
 have hin : i < bytes.length := by
  rcases Nat.lt_or_ge i bytes.length with h | h
  ·exact h
  ·rw [List.getElem?_eq_none h] at hc; cases hc
 have hne := own_ne hown hblk (by decide)
 have hgne : g ≠ Rb := fun e => hne (by simp [Value.ownBlock, e])
 have hc0 := cell_of_row w Rb 0 _ _ _ hblk
 have hc1 := cell_of_row w Rb 1 _ _ _ hblk
 have hf1 : w.frozen? ⟨Rb, 1, none⟩ = false := frozen_blk hblk
 simp only [rdCells, List.getElem?_toArray, List.getElem?_cons_zero, List.getElem?_cons_succ] at hc0 hc1
 have hgc2 : ∀ (k : Nat) (v : Value), ((w.drewN k).setCell ⟨Rb, 1, none⟩ v).cell? ⟨g, i, none⟩ = some (byteV c) := fun k v => (World.cell?_setCell_far (w.drewN k) ⟨Rb, 1, none⟩ ⟨g, i, none⟩ v (fun e => hgne e.symm)).trans hgc
 unfold byteV at hgc2
 have hd : decide ((n : Int) ≤ (i : Int)) = false := by simp; omega
 have HB := Lib.hid hblk
 have HO := Lib.hid hown
 have HN := Lib.hid hn
 clear hblk hown hne
 have hi0 : (0 : Int) ≤ (i : Int) := Int.natCast_nonneg _
 have hin2 : (i : Int) < (bytes.length : Int) := by omega
 have hw66 : IntKind.i64.wrap (i : Int) = (i : Int) := IntWalk.i64_in _ (by omega)
 have hw64 : IntKind.i64.wrap ((i : Int) + 1) = (i : Int) + 1 := IntWalk.i64_in _ (by omega)
 have hw65 : IntKind.i64.wrap ((i : Int) + 1 - 1) = (i : Int) := by rw [IntWalk.i64_in _ (by omega)]; omega
 unfold P0
 go_enter Tryz.func254, Tryz.ntmps254
 go_wp2_with fail
 go_quiet (fail)
 go_wp2_with fail
 go_quiet (fail)
 go_wp2
 go_ret
 refine ⟨rfl, ⟨⟨some ⟨g, 0, none⟩, n, cap, ?_, HN.out, ?_⟩, hlo⟩, ?_⟩
 ·exact (blk_setCell (w := w.drewN _) (off := 1) HB.out _).trans rfl
 ·exact ownsRow_setCell_other (w := w.drewN _) HO.out (by simpa [Value.ownBlock] using hgne) _
 ·exact belowN ((belowN (Below.refl _ _) _).setCell hlo _) _

theorem and127 (c : Nat) (h : c < 18446744073709551616) : bits .and .u64 (c : Int) 127 = ((c % 128 : Nat) : Int) := by
 have := u64_and_nat c 127 h (by omega)
 rw [show ((127 : Nat) : Int) = 127 from rfl] at this
 rw [this, Nat.and_two_pow_sub_one_eq_mod c 7]

theorem or_join (a b s : Nat) (ha : a < 2 ^ s) (hb : a + b * 2 ^ s < 18446744073709551616) : bits .or .u64 (a : Int) ((b * 2 ^ s : Nat) : Int) = ((a + b * 2 ^ s : Nat) : Int) := by
 rw [u64_or_nat a _ (by omega) (by omega), Nat.or_comm, nat_join s _ _ (by rw [Nat.mul_mod_left]) ha, Nat.add_comm]

/-- what holds where a number has been read in part -/
structure Part (bytes : List Nat) (p v j m acc : Nat) : Prop where
 sum : acc + m * 2 ^ (7 * j) = v
 low : acc < 2 ^ (7 * j)
 pos : 0 < j → 0 < m
 lies : ∀ i c, (sevens m)[i]? = some c → bytes[p + j + i]? = some c

theorem sevens_head (m : Nat) : (sevens m)[0]? = some (if m ≤ 127 then m else m % 128 + 128) := by
 by_cases h : m ≤ 127
 ·rw [sevens_small h, if_pos h]; rfl
 ·rw [sevens_more h, if_neg h]; rfl

theorem Part.step {bytes : List Nat} {p v j m acc : Nat} (h : Part bytes p v j m acc) (hm : ¬ m ≤ 127) : Part bytes p v (j + 1) (m / 128) (acc + m % 128 * 2 ^ (7 * j)) := by
 have e : 2 ^ (7 * (j + 1)) = 2 ^ (7 * j) * 128 := by rw [show 7 * (j + 1) = 7 * j + 7 by omega, Nat.pow_add]
 have hdm := Nat.div_add_mod m 128
 have hlt := Nat.mod_lt m (show 0 < 128 by omega)
 refine ⟨?_, ?_, fun _ => by omega, ?_⟩
 ·rw [← h.sum, e, Nat.add_assoc]
  congr 1
  rw [Nat.mul_comm (2 ^ (7 * j)) 128, ← Nat.mul_assoc, ← Nat.add_mul]
  congr 1
  omega
 ·have h1 := h.low
  rw [e]
  have h2 : m % 128 * 2 ^ (7 * j) ≤ 127 * 2 ^ (7 * j) := Nat.mul_le_mul_right _ (by omega)
  omega
 ·intro i c hc
  have := h.lies (i + 1) c (by rw [sevens_more hm]; simpa using hc)
  rw [show p + (j + 1) + i = p + j + (i + 1) by omega]
  exact this

theorem Part.shift {bytes : List Nat} {p v j m acc : Nat} (h : Part bytes p v j m acc) (hv : v < 18446744073709551616) : j ≤ 9 := by
 rcases Nat.eq_zero_or_pos j with rfl | hj
 ·omega
 ·have h1 := h.pos hj
  have h2 := h.sum
  apply Nat.le_of_not_lt
  intro h9
  have h3 : 2 ^ 70 ≤ 2 ^ (7 * j) := Nat.pow_le_pow_right (by omega) (by omega)
  have h4 : 1 * 2 ^ (7 * j) ≤ m * 2 ^ (7 * j) := Nat.mul_le_mul_right _ h1
  omega

theorem Part.fit {bytes : List Nat} {p v j m acc c : Nat} (h : Part bytes p v j m acc) (hv : v < 18446744073709551616) (hc : c ≤ m) : Lib.bitLen c + 7 * j ≤ 64 := by
 have hj := h.shift hv
 by_cases h0 : c = 0
 ·subst h0
  have : Lib.bitLen 0 = 0 := rfl
  omega
 ·have h2 := h.sum
  have h2p : 1 ≤ 2 ^ (7 * j) := Nat.one_le_two_pow
  have hm : c * 1 ≤ m * 2 ^ (7 * j) := Nat.mul_le_mul hc h2p
  obtain ⟨hb, h1, _⟩ := Lib.bitLenAux_bounds 64 c (by omega) h0
  have eb : Lib.bitLenAux 64 c = Lib.bitLen c := rfl
  rw [eb] at hb h1
  apply Nat.le_of_not_lt
  intro h9
  have h3 : 2 ^ (Lib.bitLen c - 1) * 2 ^ (7 * j) ≤ m * 2 ^ (7 * j) := Nat.mul_le_mul_right _ (by omega)
  rw [← Nat.pow_add] at h3
  have h4 : 2 ^ 64 ≤ 2 ^ (Lib.bitLen c - 1 + 7 * j) := Nat.pow_le_pow_right (by omega) (by omega)
  omega

theorem RdAt.drew {w : World} {base Rb : Nat} {bytes : List Nat} {p : Nat} {x : B.Ins} (hr : RdAt w base Rb bytes p x) : RdAt w.drew base Rb bytes p x := ⟨hr.ex, hr.lo⟩

theorem value_sum {bytes : List Nat} {p v j m acc : Nat} (h : Part bytes p v j m acc) (hv : v < 18446744073709551616) : bits .or .u64 (acc : Int) (IntKind.u64.wrap ((m : Int) * 2 ^ (7 * j))) = (v : Int) := by
 have h1 := h.sum
 have h2 : (m : Int) * 2 ^ (7 * j) = ((m * 2 ^ (7 * j) : Nat) : Int) := by push_cast; rfl
 have h3 : IntKind.u64.wrap ((m * 2 ^ (7 * j) : Nat) : Int) = ((m * 2 ^ (7 * j) : Nat) : Int) := by
  have : ∀ n : Int, IntKind.u64.wrap n = n % 18446744073709551616 := fun n => by simp [IntKind.wrap, IntKind.signed, IntKind.bits]
  rw [this]; omega
 rw [h2, h3, or_join acc m (7 * j) h.low (by omega), h1]

theorem value_more {bytes : List Nat} {p v j m acc k : Nat} (h : Part bytes p v j m acc) (hk : m % 128 = k) (hv : v < 18446744073709551616) : bits .or .u64 (acc : Int) (IntKind.u64.wrap ((k : Int) * 2 ^ (7 * j))) = ((acc + k * 2 ^ (7 * j) : Nat) : Int) := by
 have h1 := h.sum
 have h4 : k * 2 ^ (7 * j) ≤ m * 2 ^ (7 * j) := Nat.mul_le_mul_right _ (by rw [← hk]; exact Nat.mod_le _ _)
 have h2 : (k : Int) * 2 ^ (7 * j) = ((k * 2 ^ (7 * j) : Nat) : Int) := by push_cast; rfl
 have h3 : IntKind.u64.wrap ((k * 2 ^ (7 * j) : Nat) : Int) = ((k * 2 ^ (7 * j) : Nat) : Int) := by
  have : ∀ n : Int, IntKind.u64.wrap n = n % 18446744073709551616 := fun n => by simp [IntKind.wrap, IntKind.signed, IntKind.bits]
  rw [this]; omega
 rw [h2, h3, or_join acc k (7 * j) h.low (by omega)]

theorem RdAt.err {w : World} {base Rb : Nat} {bytes : List Nat} {p : Nat} {x : B.Ins} (hr : RdAt w base Rb bytes p x) : w.cell? ⟨Rb, 7, none⟩ = some .nilIface := by
 obtain ⟨⟨ao, n, cap, hblk, hn, hown⟩, hlo⟩ := hr
 have := cell_of_row w Rb 7 _ _ _ hblk
 simpa [rdCells] using this

theorem Part.last {bytes : List Nat} {p v j m acc : Nat} (h : Part bytes p v j m acc) (hv : v < 18446744073709551616) (hm : ¬ m ≤ 127) : j ≤ 8 := by
 have hj := h.shift hv
 apply Nat.le_of_not_lt
 intro h9
 obtain rfl : j = 9 := by omega
 have := h.sum
 omega

set_option maxRecDepth 100000 in
set_option maxHeartbeats 3200000 in
theorem rd_sevens (Rb base : Nat) (bytes : List Nat) (p v : Nat) (x : B.Ins) (w : World) (hr : RdAt w base Rb bytes p x) (hv : v < 18446744073709551616) (hc : ∀ i c, (sevens v)[i]? = some c → bytes[p + i]? = some c) (hlen : bytes.length ≤ 100) :
    Calls Tryz.prog 264 #[P0 Rb] w fun e w' => e = .returned (.int .u64 v) ∧ RdAt w' base Rb bytes (p + (sevens v).length) x ∧ Below base w w' := by
 have hc1 : w.cell? ⟨Rb, 1, none⟩ = some (.int .i64 (p : Nat)) := by
  obtain ⟨⟨ao, n, cap, hblk, hn, hown⟩, hlo⟩ := hr
  have := cell_of_row w Rb 1 _ _ _ hblk
  simpa [rdCells] using this
 have HR := Lib.hid hr
 have HC := Lib.hid hc
 have hpb : p ≤ 100 := by
  have := hc 0 _ (sevens_head v)
  have := (List.getElem?_eq_some_iff.1 this).1
  omega
 clear hr hc
 unfold P0
 go_enter Tryz.func264, Tryz.ntmps264
 go_wp2_with fail
 go_loopw [4, 5] (fun v4 v5 wr => ∃ (j m acc : Nat), v4 = .int .u64 acc ∧ v5 = .int .i64 (7 * j : Nat) ∧ Part bytes p v j m acc ∧ (p + j + (sevens m).length = p + (sevens v).length) ∧ RdAt wr base Rb bytes (p + j) x ∧ Below base w wr)
  (fun _ v5 _ => 100 - (intOf v5).toNat)
 case atStart => exact ⟨0, v, 0, rfl, rfl, ⟨by simp, by simp, fun h => absurd h (by omega), HC.out⟩, rfl, HR.out, Below.refl _ _⟩
 case round =>
  obtain ⟨j, m, acc, rfl, rfl, hp, hl, hrr, hb⟩ := hrel
  have hj9 := hp.shift hv
  have HP := Lib.hid hp
  have HL := Lib.hid hl
  have HB := Lib.hid hb
  have HRR := Lib.hid hrr
  clear hp hl hb hrr
  by_cases h127 : m ≤ 127
  ·have hhead : bytes[p + j]? = some m := by
     have := HP.out.lies 0 _ (sevens_head m)
     rw [if_pos h127] at this
     exact this
   have ha := and127 m (by omega)
   rw [show m % 128 = m by omega] at ha
   have hf := HP.out.fit hv (Nat.le_refl m)
   have hf2 : Lib.bitLen (m : Int).toNat = Lib.bitLen m := rfl
   have hj0 : 0 < j → 0 < m := HP.out.pos
   have hb0 : Lib.bitLen 0 = 0 := rfl
   go_wp2_with (first
    | (go_at_call 254; refine (rd_one Rb base bytes (p + j) m x _ HRR.out hhead hlen (by omega)).mono ?_; rintro e w1 ⟨rfl, hr1, hb1⟩; have herr := hr1.err)
    | (go_at_call 289; refine (Tryz.bits_Len64 _ _ (by omega) (by omega)).mono ?_; rintro e w2 ⟨rfl, rfl⟩))
   all_goals go_ret
   all_goals refine ⟨?_, ?_, HB.out.trans hb1⟩
   all_goals first
    | (have hq := HL.out; rw [sevens_small h127] at hq; rw [← hq]; exact hr1)
    | skip
   all_goals refine ret_int ?_
   ·rw [show (m : Int) * 9223372036854775808 = ((m * 2 ^ (7 * j) : Nat) : Int) by (obtain rfl : j = 9 := by omega); rfl]
    exact value_sum HP.out hv
   ·have hm0 : m = 0 := by assumption
    rw [show bits BinOp.and IntKind.u64 0 127 = (m : Int) by rw [hm0]; exact and127 0 (by omega)]
    exact value_sum HP.out hv
   ·exact value_sum HP.out hv
  ·have hlt128 := Nat.mod_lt m (show 0 < 128 by omega)
   have hhead : bytes[p + j]? = some (m % 128 + 128) := by
    have := HP.out.lies 0 _ (sevens_head m)
    rw [if_neg h127] at this
    exact this
   have hle : m % 128 ≤ m := Nat.mod_le _ _
   have hj8 := HP.out.last hv h127
   have hst := Lib.hid (HP.out.step h127)
   have hf := HP.out.fit hv hle
   have ha := and127 (m % 128 + 128) (by omega)
   rw [show (m % 128 + 128) % 128 = m % 128 by omega] at ha
   generalize hk : m % 128 = k at *
   have hf2 : Lib.bitLen (k : Int).toNat = Lib.bitLen k := rfl
   have ha2 : bits .and .u64 ((k : Int) + 128) 127 = (k : Int) := ha
   clear ha
   have hb0 : Lib.bitLen 0 = 0 := rfl
   go_wp2_with (first
    | (go_at_call 254; refine (rd_one Rb base bytes (p + j) (k + 128) x _ HRR.out hhead hlen (by omega)).mono ?_; rintro e w1 ⟨rfl, hr1, hb1⟩; have herr := hr1.err)
    | (go_at_call 289; refine (Tryz.bits_Len64 _ _ (by omega) (by omega)).mono ?_; rintro e w2 ⟨rfl, rfl⟩))
   have hor := value_more HP.out hk hv
   have hlen2 := HL.out
   rw [sevens_more h127, List.length_cons] at hlen2
   have hbig := hst.out.shift hv
   go_roundw
   case rel => exact ⟨j + 1, m / 128, acc + k * 2 ^ (7 * j), by rw [hor], by go_num, hst.out, by omega, hr1, HB.out.trans hb1⟩
   case measure =>
    simp [intOf]
    omega

/-- a number laid into an instruction -/
def B.Ins.set (x : B.Ins) (k : Nat) (v : Int) : B.Ins := if k = 0 then { x with a := v } else if k = 1 then { x with b := v } else { x with n := v }

/-- what a field reads, given what was written of y -/
def got (fk : FK) (x y : B.Ins) : B.Ins :=
 match fk with
 | .small k _ _ => B.Ins.set x k (byteOf (get k y))
 | .number => { x with imm := y.imm }
 | .sign => { x with imm := y.imm }
 | .skip => { x with n := y.n }
 | .bytes => { x with n := byteOf y.n }

/-- storing one cell of the reader -/
theorem RdAt.setCell {w : World} {base Rb : Nat} {bytes : List Nat} {p : Nat} {x : B.Ins} (hr : RdAt w base Rb bytes p x) (off : Nat) (u : Value) (y : B.Ins)
    (hy : ∀ ao n cap, (rdCells ao n cap p x).setIfInBounds off u = rdCells ao n cap p y) : RdAt (w.setCell ⟨Rb, off, none⟩ u) base Rb bytes p y := by
 obtain ⟨⟨ao, n, cap, hblk, hn, hown⟩, hlo⟩ := hr
 have hne := own_ne hown hblk (by decide)
 exact ⟨⟨ao, n, cap, by rw [blk_setCell hblk, hy], hn, ownsRow_setCell_other hown (by simpa using hne) _⟩, hlo⟩

theorem RdAt.facts {w : World} {base Rb : Nat} {bytes : List Nat} {p : Nat} {x : B.Ins} (hr : RdAt w base Rb bytes p x) :
    w.cell? ⟨Rb, 3, none⟩ = some (.int .i64 x.a) ∧ w.cell? ⟨Rb, 4, none⟩ = some (.int .i64 x.b) ∧ w.cell? ⟨Rb, 5, none⟩ = some (.int .i64 x.n) ∧ w.cell? ⟨Rb, 6, none⟩ = some (.int .u64 x.imm) ∧ (∀ k, w.frozen? ⟨Rb, k, none⟩ = false) ∧ Rb < w.heap.size := by
 obtain ⟨⟨ao, n, cap, hblk, hn, hown⟩, hlo⟩ := hr
 have h3 := cell_of_row w Rb 3 _ _ _ hblk
 have h4 := cell_of_row w Rb 4 _ _ _ hblk
 have h5 := cell_of_row w Rb 5 _ _ _ hblk
 have h6 := cell_of_row w Rb 6 _ _ _ hblk
 simp only [rdCells, List.getElem?_toArray, List.getElem?_cons_zero, List.getElem?_cons_succ] at h3 h4 h5 h6
 exact ⟨h3, h4, h5, h6, fun k => frozen_blk hblk, lt_of_block hblk⟩

set_option maxRecDepth 100000 in
set_option maxHeartbeats 3200000 in
theorem read_number (Rb base : Nat) (bytes : List Nat) (p v : Nat) (x : B.Ins) (w : World) (hr : RdAt w base Rb bytes p x) (hv : v < 18446744073709551616) (hc : ∀ i c, (sevens v)[i]? = some c → bytes[p + i]? = some c) (hlen : bytes.length ≤ 100) :
    Calls Tryz.prog 263 #[P0 Rb] w fun e w' => e = .returned (.tuple #[]) ∧ RdAt w' base Rb bytes (p + (sevens v).length) { x with imm := v } ∧ Below base w w' := by
 have hlo := hr.lo
 have HR := Lib.hid hr
 have HC := Lib.hid hc
 clear hr hc
 unfold P0
 go_enter Tryz.func263, Tryz.ntmps263
 go_wp2_with (go_at_call 264; refine (rd_sevens Rb base bytes p v x _ HR.out hv HC.out hlen).mono ?_; rintro e w1 ⟨rfl, hr1, hb1⟩; have h6 := hr1.facts.2.2.2.1; have hf6 := hr1.facts.2.2.2.2.1 6; have hRb := hr1.facts.2.2.2.2.2)
 go_end0
 exact ⟨rfl, hr1.setCell 6 _ _ (fun _ _ _ => rfl), hb1.setCell hlo _⟩

set_option maxRecDepth 100000 in
set_option maxHeartbeats 3200000 in
theorem read_skip (Rb base : Nat) (bytes : List Nat) (p v : Nat) (x : B.Ins) (w : World) (hr : RdAt w base Rb bytes p x) (hv : v ≤ 16384) (hc : ∀ i c, (sevens v)[i]? = some c → bytes[p + i]? = some c) (hlen : bytes.length ≤ 100) :
    Calls Tryz.prog 297 #[P0 Rb] w fun e w' => e = .returned (.tuple #[]) ∧ RdAt w' base Rb bytes (p + (sevens v).length) { x with n := v } ∧ Below base w w' := by
 have hlo := hr.lo
 have HR := Lib.hid hr
 have HC := Lib.hid hc
 clear hr hc
 unfold P0
 go_enter Tryz.func297, Tryz.ntmps297
 go_wp2_with (go_at_call 264; refine (rd_sevens Rb base bytes p v x _ HR.out (by omega) HC.out hlen).mono ?_; rintro e w1 ⟨rfl, hr1, hb1⟩; have h6 := hr1.facts.2.2.1; have hf6 := hr1.facts.2.2.2.2.1 5; have hRb := hr1.facts.2.2.2.2.2)
 have hmin : min (v : Int) 16385 = v := by omega
 rw [hmin]
 go_end0
 exact ⟨rfl, hr1.setCell 5 _ _ (fun _ _ _ => rfl), hb1.setCell hlo _⟩

set_option maxRecDepth 100000 in
set_option maxHeartbeats 3200000 in
theorem read_small (k : Nat) (hk : k ≤ 2) (b4 Rb base : Nat) (bytes : List Nat) (p c : Nat) (x : B.Ins) (w : World) (h4 : w.cell? ⟨b4, 0, none⟩ = some (fn0 (atFn k))) (hl4 : b4 < base) (hr : RdAt w base Rb bytes p x) (hc : bytes[p]? = some c) (hc256 : c < 256) (hlen : bytes.length ≤ 100) :
    Calls Tryz.prog 253 #[P0 Rb, P0 b4] w fun e w' => e = .returned (.tuple #[]) ∧ RdAt w' base Rb bytes (p + 1) (B.Ins.set x k c) ∧ Below base w w' := by
 have hlo := hr.lo
 have hRb := hr.facts.2.2.2.2.2
 have HR := Lib.hid hr
 unfold P0
 clear hr
 rcases (show k = 0 ∨ k = 1 ∨ k = 2 by omega) with rfl | rfl | rfl
 ·have g : B.Ins.set x 0 c = { x with a := c } := rfl
  rw [g]; clear g
  have e : fn0 (atFn 0) = .func (.func 224) #[] #[] := rfl
  rw [e] at h4; clear e
  go_enter Tryz.func253, Tryz.ntmps253
  go_region_law (first
   | (go_simp; go_at_call 224; refine (fieldA_any _ _ _).mono ?_; rintro e w1 ⟨rfl, rfl⟩)
   | (go_simp; go_at_call 254; refine (rd_one Rb base bytes p c x _ HR.out.drew hc hlen hc256).mono ?_; rintro e w1 ⟨rfl, hr1, hb1⟩; have h4b := (hb1.cell (p := ⟨b4, 0, none⟩) hl4).trans h4; have hf := hr1.facts; have hs1 := hb1.size))
  all_goals go_end0
  all_goals exact ⟨rfl, hr1.setCell 3 _ _ (fun _ _ _ => rfl), (((Below.refl base w).drew).trans hb1).setCell hlo _⟩
 ·have g : B.Ins.set x 1 c = { x with b := c } := rfl
  rw [g]; clear g
  have e : fn0 (atFn 1) = .func (.func 225) #[] #[] := rfl
  rw [e] at h4; clear e
  go_enter Tryz.func253, Tryz.ntmps253
  go_region_law (first
   | (go_simp; go_at_call 225; refine (fieldB_any _ _ _).mono ?_; rintro e w1 ⟨rfl, rfl⟩)
   | (go_simp; go_at_call 254; refine (rd_one Rb base bytes p c x _ HR.out.drew hc hlen hc256).mono ?_; rintro e w1 ⟨rfl, hr1, hb1⟩; have h4b := (hb1.cell (p := ⟨b4, 0, none⟩) hl4).trans h4; have hf := hr1.facts; have hs1 := hb1.size))
  all_goals go_end0
  all_goals exact ⟨rfl, hr1.setCell 4 _ _ (fun _ _ _ => rfl), (((Below.refl base w).drew).trans hb1).setCell hlo _⟩
 ·have g : B.Ins.set x 2 c = { x with n := c } := rfl
  rw [g]; clear g
  have e : fn0 (atFn 2) = .func (.func 269) #[] #[] := rfl
  rw [e] at h4; clear e
  go_enter Tryz.func253, Tryz.ntmps253
  go_region_law (first
   | (go_simp; go_at_call 269; refine (fieldN_any _ _ _).mono ?_; rintro e w1 ⟨rfl, rfl⟩)
   | (go_simp; go_at_call 254; refine (rd_one Rb base bytes p c x _ HR.out.drew hc hlen hc256).mono ?_; rintro e w1 ⟨rfl, hr1, hb1⟩; have h4b := (hb1.cell (p := ⟨b4, 0, none⟩) hl4).trans h4; have hf := hr1.facts; have hs1 := hb1.size))
  all_goals go_end0
  all_goals exact ⟨rfl, hr1.setCell 5 _ _ (fun _ _ _ => rfl), (((Below.refl base w).drew).trans hb1).setCell hlo _⟩

end Code
end Go.Proofs.YtegjeincncccaaaGreatDoor
