/- Package code: fields are written: what the writer's bytes become. -/
import Derived.Test.YtegjeincncccaaaGreatDoorCodeA
import Derived.Test.YtegjeincncccaaaGreatDoorBase2
import Derived.Deep.RegionLaw
import Derived.Deep.DrawnRows
namespace Go.Proofs.YtegjeincncccaaaGreatDoor
open Go.RowKit

namespace Code

attribute [local go_sem ↓] Go.wp_at_zero Go.wp_at_succ

/-- a number in sevens -/
def sevens (v : Nat) : List Nat := if v ≤ 127 then [v] else (v % 128 + 128) :: sevens (v / 128)
termination_by v

def byteV (b : Nat) : Value := .int .u8 b

/-- a writer in memory: its bytes are the call's own -/
structure WrAt (w : World) (base Bw : Nat) (bs : List Nat) (x : B.Ins) : Prop where
 ex : ∃ ao n cap, w.heap[Bw]? = some (.cells #[.slice ao n cap, .int .i64 x.op, .int .i64 x.a, .int .i64 x.b, .int .i64 x.n, .int .u64 x.imm] 318 (0, 0)) ∧
  n = bs.length ∧ w.ownsRow base 5 1 (.slice ao n cap) n (bs.map byteV)
 lo : base ≤ Bw

theorem infoU8 : (Tryz.prog.info? 5).map (fun i => (i.zero, i.size, i.bytes)) = some (some (.int .u8 0), 1, 1) := by kernel_rfl

/-- a byte more -/
theorem wr_push {W w1 : World} {base Bw : Nat} {bs : List Nat} {x : B.Ins} {ao ao' : Option Addr} {n cap cap' : Nat} {c : Nat}
    (hblk : W.heap[Bw]? = some (.cells #[.slice ao n cap, .int .i64 x.op, .int .i64 x.a, .int .i64 x.b, .int .i64 x.n, .int .u64 x.imm] 318 (0, 0)))
    (hn : n = bs.length) (hown : W.ownsRow base 5 1 (.slice ao n cap) n (bs.map byteV)) (hlo : base ≤ Bw)
    (hown1 : w1.ownsRow base 5 1 (.slice ao' (n + 1) cap') (n + 1) (bs.map byteV ++ [byteV c])) (hg : W.grownBy w1 (Value.ownBlock (.slice ao n cap))) :
    WrAt (w1.setCell ⟨Bw, 0, none⟩ (.slice ao' (n + 1) cap')) base Bw (bs ++ [c]) x := by
 have hlt := lt_of_block hblk
 have hne := own_ne hown hblk (by decide)
 have hb1 : w1.heap[Bw]? = W.heap[Bw]? := hg.block Bw hlt (fun e => hne e.symm)
 rw [hblk] at hb1
 have hne1 := own_ne hown1 hb1 (by decide)
 refine ⟨⟨ao', n + 1, cap', ?_, by simp [hn], ?_⟩, hlo⟩
 ·rw [blk_setCell hb1]; rfl
 ·rw [List.map_append]
  exact ownsRow_setCell_other hown1 (by simpa using hne1) _

theorem wr_facts {w1 W : World} {base Bw : Nat} {bs : List Nat} {x : B.Ins} {ao : Option Addr} {n cap : Nat}
    (hblk : W.heap[Bw]? = some (.cells #[.slice ao n cap, .int .i64 x.op, .int .i64 x.a, .int .i64 x.b, .int .i64 x.n, .int .u64 x.imm] 318 (0, 0)))
    (hown : W.ownsRow base 5 1 (.slice ao n cap) n (bs.map byteV)) (hg : W.grownBy w1 (Value.ownBlock (.slice ao n cap))) :
    w1.cell? ⟨Bw, 0, none⟩ = some (.slice ao n cap) ∧ w1.frozen? ⟨Bw, 0, none⟩ = false := by
 have hlt := lt_of_block hblk
 have hne := own_ne hown hblk (by decide)
 have hb1 : w1.heap[Bw]? = W.heap[Bw]? := hg.block Bw hlt (fun e => hne e.symm)
 rw [hblk] at hb1
 exact ⟨by rw [cell_of_row _ _ _ _ _ _ hb1]; rfl, frozen_blk hb1⟩

theorem blk_alloc {w : World} {b : Nat} {o ob : Obj} (h : w.heap[b]? = some ob) : (w.alloc o).heap[b]? = some ob := (Below.heap_alloc w o b (lt_of_block h)).trans h

theorem blk_drew {w : World} {b : Nat} {ob : Obj} (h : w.heap[b]? = some ob) : w.drew.heap[b]? = some ob := h

theorem wr_cellO {w1 W : World} {base Bw : Nat} {bs : List Nat} {x : B.Ins} {ao : Option Addr} {n cap : Nat}
    (hblk : W.heap[Bw]? = some (.cells #[.slice ao n cap, .int .i64 x.op, .int .i64 x.a, .int .i64 x.b, .int .i64 x.n, .int .u64 x.imm] 318 (0, 0)))
    (hown : W.ownsRow base 5 1 (.slice ao n cap) n (bs.map byteV)) (hg : W.grownBy w1 (Value.ownBlock (.slice ao n cap))) (off : Nat) : w1.cell? ⟨Bw, off, none⟩ = W.cell? ⟨Bw, off, none⟩ :=
 hg.cell_far _ (lt_of_block hblk) (fun e => own_ne hown hblk (by decide) e.symm)

theorem wr_cell4 {w1 W : World} {base b4 : Nat} {v : Value} {bs : List Value} {ao : Option Addr} {n cap : Nat} (h4 : W.cell? ⟨b4, 0, none⟩ = some v) (hl4 : b4 < base) (hbase : base ≤ W.heap.size)
    (hown : W.ownsRow base 5 1 (.slice ao n cap) n bs) (hg : W.grownBy w1 (Value.ownBlock (.slice ao n cap))) : w1.cell? ⟨b4, 0, none⟩ = some v := by
 have hb : Below base W w1 := (Below.refl base W).grown hg hbase (fun k hk => (hown.lt k hk).1)
 exact (hb.cell (p := ⟨b4, 0, none⟩) hl4).trans h4

theorem sevens_small {m : Nat} (h : m ≤ 127) : sevens m = [m] := by rw [sevens, if_pos h]
theorem sevens_more {m : Nat} (h : ¬ m ≤ 127) : sevens m = (m % 128 + 128) :: sevens (m / 128) := by rw [sevens, if_neg h]
theorem sevens_len : ∀ (d m : Nat), m < 128 ^ d → 0 < d → (sevens m).length ≤ d := by
 intro d
 induction d with
 | zero => intro m _ h; omega
 | succ d ih =>
  intro m hm _
  by_cases h : m ≤ 127
  ·rw [sevens_small h]; simp
  ·rw [sevens_more h]
   have hd : 0 < d := by
    apply Nat.pos_of_ne_zero
    intro h0; subst h0; omega
   have := ih (m / 128) (Nat.div_lt_of_lt_mul (by rw [Nat.pow_succ] at hm; omega)) hd
   simp; omega

set_option maxRecDepth 100000 in
theorem or128_small : ∀ k, k < 256 → bits BinOp.or .u8 (k : Nat) 128 = ((k % 128 + 128 : Nat) : Int) := by decide
theorem or128 (m : Nat) : bits BinOp.or .u8 ((m : Int) % 256) 128 = ((m % 128 + 128 : Nat) : Int) := by
 have := or128_small (m % 256) (by omega)
 rw [show ((m % 256 : Nat) : Int) = (m : Int) % 256 by omega, show m % 256 % 128 = m % 128 by omega] at this
 exact this

set_option maxRecDepth 100000 in
set_option maxHeartbeats 3200000 in
theorem wr_sevens (Bw base : Nat) (bs : List Nat) (x : B.Ins) (v : Nat) (w : World) (hv : v < 18446744073709551616) (hlen : bs.length ≤ 100) (hw : WrAt w base Bw bs x) (hbase : base ≤ w.heap.size) :
    Calls Tryz.prog 262 #[P0 Bw, .int .u64 v] w fun e w' => e = .returned (.tuple #[]) ∧ WrAt w' base Bw (bs ++ sevens v) x ∧ Below base w w' := by
 have hsl := Lib.hid (sevens_len 10 v (by omega) (by omega))
 unfold P0
 go_enter Tryz.func262, Tryz.ntmps262
 go_wp2_with fail
 go_loopw [1] (fun v' wr => ∃ (m : Nat) (bs' : List Nat), v' = .int .u64 m ∧ m < 18446744073709551616 ∧ bs' ++ sevens m = bs ++ sevens v ∧ WrAt wr base Bw bs' x ∧ Below base w wr)
  (fun v' _ => (intOf v').toNat)
 case atStart => exact ⟨v, bs, rfl, hv, rfl, hw, Below.refl _ _⟩
 case round =>
  obtain ⟨m, bs', rfl, hm, he, hwr, hb⟩ := hrel
  obtain ⟨⟨ao, n, cap, hblk, hn, hown⟩, hlo⟩ := hwr
  have hnl : n ≤ 110 := by
   have h1 := congrArg List.length he
   have h2 := hsl.out
   simp only [List.length_append] at h1
   omega
  have hsz := hb.size
  have HE := Lib.hid he
  have HB := Lib.hid hb
  have HN := Lib.hid hn
  have HO := Lib.hid hown
  have HK := Lib.hid hblk
  have hc0 := cell_of_row wr Bw 0 _ _ _ hblk
  simp only [List.getElem?_toArray, List.getElem?_cons_zero] at hc0
  have hbw := lt_of_block hblk
  clear he hb hn hown hblk hw
  by_cases h127 : m ≤ 127
  ·go_wp2_with (at_builtin; refine app_gen Tryz.underlying32 infoU8 rfl (by decide) rfl _ _ rfl base rfl HO.out rfl rfl (by simp [Value.oneCell']) (by omega) (by omega) (by omega) ?_; intro ao' cap' w1 hown1 hg1 hb1 hs1; have hcf := wr_facts (blk_alloc HK.out) (HO.out.alloc _) hg1; have hc1 := hcf.1; have hf1 := hcf.2; clear hcf)
   go_end0
   refine ⟨rfl, ?_, (HB.out.trans hb1).setCell hlo _⟩
   have := wr_push (blk_alloc HK.out) HN.out (HO.out.alloc _) hlo hown1 hg1
   rw [← HE.out, sevens_small h127]
   exact this
  ·go_wp2_with (at_builtin; refine app_gen Tryz.underlying32 infoU8 rfl (by decide) rfl _ _ rfl base rfl HO.out rfl rfl (by simp [Value.oneCell']) (by omega) (by omega) (by omega) ?_; intro ao' cap' w1 hown1 hg1 hb1 hs1; have hcf := wr_facts (blk_alloc HK.out) (HO.out.alloc _) hg1; have hc1 := hcf.1; have hf1 := hcf.2; clear hcf)
   go_roundw
   case rel =>
    rw [or128] at hown1
    have hw2 := wr_push (blk_alloc HK.out) HN.out (HO.out.alloc _) hlo hown1 hg1
    refine ⟨m / 128, bs' ++ [m % 128 + 128], by go_num, by omega, ?_, hw2, (HB.out.trans hb1).setCell hlo _⟩
    rw [← HE.out, sevens_more h127]
    simp
   case measure => simp [intOf]; omega

/-- a byte's number of a cell's number -/
def byteOf (v : Int) : Nat := (v % 256).toNat

theorem wrapByte (v : Int) : IntKind.u8.wrap v = ((byteOf v : Nat) : Int) := by
 have : IntKind.u8.wrap v = v % 256 := by simp [IntKind.wrap, IntKind.signed, IntKind.bits]
 rw [this, byteOf]
 omega

/-- what a field writes -/
def enc (fk : FK) (x : B.Ins) : List Nat :=
 match fk with
 | .small k _ _ => [byteOf (get k x)]
 | .number => sevens x.imm.toNat
 | .sign => sevens x.imm.toNat
 | .skip => sevens (x.n % 18446744073709551616).toNat
 | .bytes => [byteOf x.n]

set_option maxRecDepth 100000 in
set_option maxHeartbeats 3200000 in
theorem write_small (k : Nat) (hk : k ≤ 2) (b4 Bw base : Nat) (bs : List Nat) (x : B.Ins) (w : World) (h4 : w.cell? ⟨b4, 0, none⟩ = some (fn0 (atFn k))) (hlen : bs.length ≤ 100) (hw : WrAt w base Bw bs x) (hbase : base ≤ w.heap.size) :
    Calls Tryz.prog 252 #[P0 Bw, P0 b4] w fun e w' => e = .returned (.tuple #[]) ∧ WrAt w' base Bw (bs ++ [byteOf (get k x)]) x ∧ Below base w w' := by
 obtain ⟨⟨ao, n, cap, hblk, hn, hown⟩, hlo⟩ := hw
 have hc0 := cell_of_row w Bw 0 _ _ _ hblk
 have hc1 := cell_of_row w Bw 1 _ _ _ hblk
 have hc2 := cell_of_row w Bw 2 _ _ _ hblk
 have hc3 := cell_of_row w Bw 3 _ _ _ hblk
 have hc4 := cell_of_row w Bw 4 _ _ _ hblk
 simp only [List.getElem?_toArray, List.getElem?_cons_zero, List.getElem?_cons_succ] at hc0 hc1 hc2 hc3 hc4
 have hbw := lt_of_block hblk
 have HN := Lib.hid hn
 have HO := Lib.hid hown
 have HK := Lib.hid hblk
 have hnl : n ≤ 100 := by omega
 clear hn hown hblk
 unfold P0
 rcases (show k = 0 ∨ k = 1 ∨ k = 2 by omega) with rfl | rfl | rfl
 ·have g : get 0 x = x.a := rfl
  rw [g]; clear g
  have e : fn0 (atFn 0) = .func (.func 224) #[] #[] := rfl
  rw [e] at h4; clear e
  go_enter Tryz.func252, Tryz.ntmps252
  go_region_law (first
   | (refine step_app Tryz.underlying32 infoU8 rfl (by decide) rfl _ _ (by rfl) base (by rfl) (HO.out.alloc _).drew (by rfl) (heap_alloc_new w _) rfl rfl (by simp [Value.oneCell']) (by omega) (by omega) (by simp; omega) ?_; intro ao' cap' w1 hown1 hg1 hb1 hs1; have hf1 := (wr_facts (x := x) (blk_drew (blk_alloc HK.out)) (HO.out.alloc _).drew hg1).2; have hc1 := (wr_facts (x := x) (blk_drew (blk_alloc HK.out)) (HO.out.alloc _).drew hg1).1)
   | (go_simp; go_at_call 224; refine (fieldA_any _ _ _).mono ?_; rintro e w1 ⟨rfl, rfl⟩))
  all_goals go_end0
  all_goals refine ⟨rfl, ?_, ((((Below.refl base w).alloc hbase _).drew).trans hb1).setCell hlo _⟩
  all_goals rw [wrapByte] at hown1
  all_goals exact wr_push (x := x) (blk_drew (blk_alloc HK.out)) HN.out (HO.out.alloc _).drew hlo hown1 hg1
 ·have g : get 1 x = x.b := rfl
  rw [g]; clear g
  have e : fn0 (atFn 1) = .func (.func 225) #[] #[] := rfl
  rw [e] at h4; clear e
  go_enter Tryz.func252, Tryz.ntmps252
  go_region_law (first
   | (refine step_app Tryz.underlying32 infoU8 rfl (by decide) rfl _ _ (by rfl) base (by rfl) (HO.out.alloc _).drew (by rfl) (heap_alloc_new w _) rfl rfl (by simp [Value.oneCell']) (by omega) (by omega) (by simp; omega) ?_; intro ao' cap' w1 hown1 hg1 hb1 hs1; have hf1 := (wr_facts (x := x) (blk_drew (blk_alloc HK.out)) (HO.out.alloc _).drew hg1).2; have hc1 := (wr_facts (x := x) (blk_drew (blk_alloc HK.out)) (HO.out.alloc _).drew hg1).1)
   | (go_simp; go_at_call 225; refine (fieldB_any _ _ _).mono ?_; rintro e w1 ⟨rfl, rfl⟩))
  all_goals go_end0
  all_goals refine ⟨rfl, ?_, ((((Below.refl base w).alloc hbase _).drew).trans hb1).setCell hlo _⟩
  all_goals rw [wrapByte] at hown1
  all_goals exact wr_push (x := x) (blk_drew (blk_alloc HK.out)) HN.out (HO.out.alloc _).drew hlo hown1 hg1
 ·have g : get 2 x = x.n := rfl
  rw [g]; clear g
  have e : fn0 (atFn 2) = .func (.func 269) #[] #[] := rfl
  rw [e] at h4; clear e
  go_enter Tryz.func252, Tryz.ntmps252
  go_region_law (first
   | (refine step_app Tryz.underlying32 infoU8 rfl (by decide) rfl _ _ (by rfl) base (by rfl) (HO.out.alloc _).drew (by rfl) (heap_alloc_new w _) rfl rfl (by simp [Value.oneCell']) (by omega) (by omega) (by simp; omega) ?_; intro ao' cap' w1 hown1 hg1 hb1 hs1; have hf1 := (wr_facts (x := x) (blk_drew (blk_alloc HK.out)) (HO.out.alloc _).drew hg1).2; have hc1 := (wr_facts (x := x) (blk_drew (blk_alloc HK.out)) (HO.out.alloc _).drew hg1).1)
   | (go_simp; go_at_call 269; refine (fieldN_any _ _ _).mono ?_; rintro e w1 ⟨rfl, rfl⟩))
  all_goals go_end0
  all_goals refine ⟨rfl, ?_, ((((Below.refl base w).alloc hbase _).drew).trans hb1).setCell hlo _⟩
  all_goals rw [wrapByte] at hown1
  all_goals exact wr_push (x := x) (blk_drew (blk_alloc HK.out)) HN.out (HO.out.alloc _).drew hlo hown1 hg1

set_option maxHeartbeats 1000000 in
theorem write_number (Bw base : Nat) (bs : List Nat) (x : B.Ins) (w : World) (hx : B.InU64 x.imm) (hlen : bs.length ≤ 100) (hw : WrAt w base Bw bs x) (hbase : base ≤ w.heap.size) :
    Calls Tryz.prog 261 #[P0 Bw] w fun e w' => e = .returned (.tuple #[]) ∧ WrAt w' base Bw (bs ++ sevens x.imm.toNat) x ∧ Below base w w' := by
 have e : x.imm = ((x.imm.toNat : Nat) : Int) := by unfold B.InU64 at hx; omega
 have hlt : x.imm.toNat < 18446744073709551616 := by unfold B.InU64 at hx; omega
 obtain ⟨⟨ao, n, cap, hblk, hn, hown⟩, hlo⟩ := hw
 have hc3 := cell_of_row w Bw 4 _ _ _ hblk
 have hc4 := cell_of_row w Bw 5 _ _ _ hblk
 simp only [List.getElem?_toArray, List.getElem?_cons_zero, List.getElem?_cons_succ] at hc3 hc4
 have hbw := lt_of_block hblk
 have HW : Hid (WrAt w base Bw bs x) := Lib.hid ⟨⟨ao, n, cap, hblk, hn, hown⟩, hlo⟩
 clear hn hown hblk
 unfold P0
 rw [e] at hc4
 generalize hv : x.imm.toNat = v at *
 go_enter Tryz.func261, Tryz.ntmps261
 go_wp2_with (go_at_call 262; refine (wr_sevens _ base bs x _ _ hlt hlen HW.out hbase).mono ?_; rintro e w1 ⟨rfl, hb⟩)
 go_end0
 exact ⟨rfl, hb⟩

set_option maxHeartbeats 1000000 in
theorem write_skip (Bw base : Nat) (bs : List Nat) (x : B.Ins) (w : World) (hlen : bs.length ≤ 100) (hw : WrAt w base Bw bs x) (hbase : base ≤ w.heap.size) :
    Calls Tryz.prog 296 #[P0 Bw] w fun e w' => e = .returned (.tuple #[]) ∧ WrAt w' base Bw (bs ++ sevens (x.n % 18446744073709551616).toNat) x ∧ Below base w w' := by
 have e : IntKind.u64.wrap x.n = (((x.n % 18446744073709551616).toNat : Nat) : Int) := by
  have : IntKind.u64.wrap x.n = x.n % 18446744073709551616 := by simp [IntKind.wrap, IntKind.signed, IntKind.bits]
  rw [this]; omega
 have hlt : (x.n % 18446744073709551616).toNat < 18446744073709551616 := by omega
 obtain ⟨⟨ao, n, cap, hblk, hn, hown⟩, hlo⟩ := hw
 have hc3 := cell_of_row w Bw 4 _ _ _ hblk
 have hc4 := cell_of_row w Bw 5 _ _ _ hblk
 simp only [List.getElem?_toArray, List.getElem?_cons_zero, List.getElem?_cons_succ] at hc3 hc4
 have hbw := lt_of_block hblk
 have HW : Hid (WrAt w base Bw bs x) := Lib.hid ⟨⟨ao, n, cap, hblk, hn, hown⟩, hlo⟩
 clear hn hown hblk
 unfold P0
 generalize hv : (x.n % 18446744073709551616).toNat = v at *
 go_enter Tryz.func296, Tryz.ntmps296
 go_wp2_with (go_at_call 262; refine (wr_sevens _ base bs x _ _ hlt hlen HW.out hbase).mono ?_; rintro e w1 ⟨rfl, hb⟩)
 go_end0
 exact ⟨rfl, hb⟩

end Code
end Go.Proofs.YtegjeincncccaaaGreatDoor
