/- Package verify: what is read ahead of being written. -/
import Derived.Test.YtgjeifcmgfmgeaaGreatDoorVerC
import Derived.Test.YtgjeifcmgfmgeaaGreatDoorVerD
namespace Go.Proofs.YtgjeifcmgfmgeaaGreatDoor
open Go.RowKit

namespace Code

attribute [local go_sem ↓] Go.wp_at_zero Go.wp_at_succ

theorem andNot_zero {m w : Nat} (hm : m < 65536) (hw : w < 65536) : m &&& (65535 - w) = 0 ↔ m &&& w = m := by
 have hb : ∀ i, (65535 - w).testBit i = (decide (i < 16) && !w.testBit i) := by
  intro i
  have := Nat.testBit_two_pow_sub_succ (n := 16) (x := w) (by omega) i
  rw [show 2 ^ 16 - (w + 1) = 65535 - w by omega] at this
  exact this
 constructor
 ·intro h
  apply Nat.eq_of_testBit_eq
  intro i
  have h1 := congrArg (fun n => n.testBit i) h
  simp only [Nat.testBit_and, hb, Nat.zero_testBit] at h1
  rw [Nat.testBit_and]
  by_cases hi : i < 16
  ·simp [hi] at h1
   cases hm2 : m.testBit i with
   | false => rfl
   | true => rw [h1 hm2]; rfl
  ·have : m.testBit i = false := Nat.testBit_lt_two_pow (Nat.lt_of_lt_of_le hm (by rw [show 65536 = 2 ^ 16 by rfl]; exact Nat.pow_le_pow_right (by omega) (by omega)))
   rw [this]; rfl
 ·intro h
  apply Nat.eq_of_testBit_eq
  intro i
  have h1 := congrArg (fun n => n.testBit i) h
  simp only [Nat.testBit_and] at h1
  simp only [Nat.testBit_and, hb, Nat.zero_testBit]
  cases hm2 : m.testBit i <;> cases hw2 : w.testBit i <;> simp_all

theorem stAt_none {ps : List B.Ins} {k : Nat} (h : B.stAt ps k k = none) : B.stAt ps (k + 1) = B.stAt ps k := by
 show (match ps[k]?, B.stAt ps k k with | some x, some w => B.stNext x k w (B.stAt ps k) | _, _ => B.stAt ps k) = _
 rw [h]; cases ps[k]? <;> rfl
theorem stAt_some {ps : List B.Ins} {k w : Nat} {x : B.Ins} (hx : ps[k]? = some x) (h : B.stAt ps k k = some w) : B.stAt ps (k + 1) = B.stNext x k w (B.stAt ps k) := by
 show (match ps[k]?, B.stAt ps k k with | some x, some w => B.stNext x k w (B.stAt ps k) | _, _ => B.stAt ps k) = _
 rw [h, hx]
theorem badAt_none {ps : List B.Ins} {k : Nat} (h : B.stAt ps k k = none) : B.badAt ps k = false := by
 unfold B.badAt; rw [h]; cases ps[k]? <;> rfl
theorem badAt_some {ps : List B.Ins} {k w : Nat} {x : B.Ins} (hx : ps[k]? = some x) (h : B.stAt ps k k = some w) : B.badAt ps k = !decide (x.mask &&& w = x.mask) := by
 unfold B.badAt; rw [h, hx]

theorem firstRead_some {ps : List B.Ins} {k : Nat} (hk : k < ps.length) (h : ∀ i, i < k → B.badAt ps i = false) (hb : B.badAt ps k = true) : B.firstRead ps = some k := by
 unfold B.firstRead
 rw [List.find?_range_eq_some]
 exact ⟨hb, by simpa using hk, fun i hi => by simp [h i hi]⟩

/-- an error of reading -/
def readErr : Option Nat → Value
 | none => .nilIface
 | some i => fault 21 i

/-- what reading answers -/
def ReadOut (ps : List B.Ins) (w : World) (e : Ending) (w' : World) : Prop := e = .returned (readErr (B.firstRead ps)) ∧ Below w.heap.size w w'

theorem mask_lt {x : B.Ins} (h : x.right = true) : x.mask < 65536 := by
 have hb := B.right_bounds h
 have hB : (2 ≤ x.op ∧ x.op ≤ 5) → x.b ≤ 15 := by
  intro ho
  unfold B.Ins.right B.hiB at h
  simp [ho] at h
  omega
 unfold B.Ins.mask
 split
 ·exact pow16 (by have := hB (by omega); omega)
 ·split
  ·exact Nat.or_lt_two_pow (n := 16) (pow16 (by omega)) (pow16 (by have := hB (by omega); omega))
  ·split
   ·exact pow16 (by omega)
   ·omega

/-- the classes of operations, by where they go and whether they write -/
inductive Cls (x : B.Ins) : Prop where
 | halt : x.op = 0 → Cls x
 | skip : x.op = 18 → Cls x
 | ne : x.op = 19 → Cls x
 | wr : x.op ≠ 0 → x.op ≠ 18 → x.op ≠ 19 → wrB x.op = true → Cls x
 | no : x.op ≠ 0 → x.op ≠ 18 → x.op ≠ 19 → wrB x.op = false → Cls x

theorem cls (x : B.Ins) : Cls x := by
 by_cases h0 : x.op = 0
 ·exact .halt h0
 by_cases h1 : x.op = 18
 ·exact .skip h1
 by_cases h2 : x.op = 19
 ·exact .ne h2
 cases h : wrB x.op with
 | true => exact .wr h0 h1 h2 h
 | false => exact .no h0 h1 h2 h

/-- the instruction's and the rule's variables -/
structure XR (x : B.Ins) (N : Nat) (X R : Nat) (w : World) : Prop where
 x0 : w.cell? ⟨X, 0, none⟩ = some (.int .i64 x.op)
 x1 : w.cell? ⟨X, 1, none⟩ = some (.int .i64 x.a)
 x2 : w.cell? ⟨X, 2, none⟩ = some (.int .i64 x.b)
 x3 : w.cell? ⟨X, 3, none⟩ = some (.int .i64 (N : Int))
 x4 : w.cell? ⟨X, 4, none⟩ = some (.int .u64 x.imm)
 r0 : w.cell? ⟨R, 0, none⟩ = some (.func (.func (rdFn x.op)) #[] #[])
 r1 : w.cell? ⟨R, 1, none⟩ = some (.bool (wrB x.op))
 lX : X < w.heap.size
 lR : R < w.heap.size

theorem XR.below {x : B.Ins} {N X R M : Nat} {w w' : World} (h : XR x N X R w) (hb : Below M w w') (hM : w.heap.size ≤ M) : XR x N X R w' :=
 have hX := Nat.lt_of_lt_of_le h.lX hM
 have hR := Nat.lt_of_lt_of_le h.lR hM
 ⟨(hb.cell (p := ⟨X, 0, none⟩) hX).trans h.x0, (hb.cell (p := ⟨X, 1, none⟩) hX).trans h.x1, (hb.cell (p := ⟨X, 2, none⟩) hX).trans h.x2, (hb.cell (p := ⟨X, 3, none⟩) hX).trans h.x3, (hb.cell (p := ⟨X, 4, none⟩) hX).trans h.x4,
  (hb.cell (p := ⟨R, 0, none⟩) hR).trans h.r0, (hb.cell (p := ⟨R, 1, none⟩) hR).trans h.r1, Nat.lt_of_lt_of_le h.lX hb.size, Nat.lt_of_lt_of_le h.lR hb.size⟩

theorem XR.grown {x : B.Ins} {N X R L : Nat} {w w' : World} (h : XR x N X R w) (hg : w.grownBy w' (some L)) (hX : L ≠ X) (hR : L ≠ R) : XR x N X R w' :=
 have eX : some X ≠ some L := fun e => hX (by simpa using e.symm)
 have eR : some R ≠ some L := fun e => hR (by simpa using e.symm)
 ⟨(hg.cell_far ⟨X, 0, none⟩ h.lX eX).trans h.x0, (hg.cell_far ⟨X, 1, none⟩ h.lX eX).trans h.x1, (hg.cell_far ⟨X, 2, none⟩ h.lX eX).trans h.x2, (hg.cell_far ⟨X, 3, none⟩ h.lX eX).trans h.x3, (hg.cell_far ⟨X, 4, none⟩ h.lX eX).trans h.x4,
  (hg.cell_far ⟨R, 0, none⟩ h.lR eR).trans h.r0, (hg.cell_far ⟨R, 1, none⟩ h.lR eR).trans h.r1, Nat.lt_of_lt_of_le h.lX hg.size, Nat.lt_of_lt_of_le h.lR hg.size⟩

theorem reads_N (x : B.Ins) (N : Nat) (hN : x.n = N) (w : World) (h : x.right = true) : Calls Tryz.prog (rdFn x.op) #[.agg #[.int .i64 x.op, .int .i64 x.a, .int .i64 x.b, .int .i64 (N : Int), .int .u64 x.imm]] w fun e w' => e = .returned (.int .u16 (x.mask : Int)) ∧ Below w.heap.size w w' := by
 rw [← hN]; exact reads_any x w h

theorem xr_new {x : B.Ins} {N X : Nat} {w : World} (c : Array Value) (hX : X < w.heap.size) (h : ∀ j, w.cell? ⟨X, j, none⟩ = (#[.int .i64 x.op, .int .i64 x.a, .int .i64 x.b, .int .i64 (N : Int), .int .u64 x.imm] : Array Value)[j]?) (t : TypeId)
    (c0 : c[0]? = some (.func (.func (rdFn x.op)) #[] #[])) (c1 : c[1]? = some (.bool (wrB x.op))) : XR x N X w.heap.size (w.alloc (.cells c t)) := by
 have far : ∀ j, (w.alloc (.cells c t)).cell? ⟨X, j, none⟩ = w.cell? ⟨X, j, none⟩ := fun j => World.cell?_alloc_lt w _ ⟨X, j, none⟩ hX
 have hb := heap_alloc_new w (.cells c t)
 exact ⟨(far 0).trans (h 0), (far 1).trans (h 1), (far 2).trans (h 2), (far 3).trans (h 3), (far 4).trans (h 4), (cell_of_row _ _ _ _ _ _ hb).trans c0, (cell_of_row _ _ _ _ _ _ hb).trans c1, by simp; omega, by simp⟩

theorem next_halt {x : B.Ins} {k wv : Nat} {st : Nat → Option Nat} (h : x.op = 0) : B.stNext x k wv st = st := by
 unfold B.stNext B.Ins.next B.Ins.skips; simp [h]
theorem next_skip {x : B.Ins} {k wv : Nat} {st : Nat → Option Nat} (h : x.op = 18) : B.stNext x k wv st = B.come st (k + 1 + x.n.toNat) wv := by
 unfold B.stNext B.Ins.next B.Ins.skips B.Ins.after B.Ins.isW; simp [h]
theorem next_ne {x : B.Ins} {k wv : Nat} {st : Nat → Option Nat} (h : x.op = 19) : B.stNext x k wv st = B.come (B.come st (k + 1) wv) (k + 1 + x.n.toNat) wv := by
 unfold B.stNext B.Ins.next B.Ins.skips B.Ins.after B.Ins.isW; simp [h]
theorem next_on {x : B.Ins} {k wv : Nat} {st : Nat → Option Nat} (h0 : x.op ≠ 0) (h1 : x.op ≠ 18) (h2 : x.op ≠ 19) : B.stNext x k wv st = B.come st (k + 1) (if wrB x.op then wv ||| 2 ^ x.a.toNat else wv) := by
 have e : x.isW = wrB x.op := rfl
 unfold B.stNext B.Ins.next B.Ins.skips B.Ins.after; simp [h0, h1, h2, e]

theorem of_one (v : Int) (b : Nat) (t : TypeId) (w : World) (hb : b = w.heap.size) (h0 : 0 ≤ v) (h15 : v ≤ 15) :
    Calls Tryz.prog 137 #[.slice (some ⟨b, 0, none⟩) 1 1] (w.alloc (.cells #[.int .i64 v] t)) fun e w' => e = .returned (.int .u16 ((2 ^ v.toNat : Nat) : Int)) ∧ w' = w.alloc (.cells #[.int .i64 v] t) := by
 have := vof_top [v] b 1 1 t w hb rfl (by omega) (by simp; omega)
 refine this.mono ?_
 rintro e w' ⟨rfl, rfl⟩
 exact ⟨ret_int (by simp [ors]), rfl⟩

/-- a skip's goal is in the program or right behind it -/
theorem goal_le {ps : List B.Ins} {size slots : Int} {k N : Nat} {x : B.Ins} (hok : B.OkTouch ps size slots) (hx : ps[k]? = some x) (ho : x.op = 18 ∨ x.op = 19) (hN : x.n = N) : k + 1 + N ≤ ps.length := by
 have h := hok.touch k x hx
 have hk := (List.getElem?_eq_some_iff.1 hx).1
 unfold B.Ins.touch at h
 rcases ho with ho | ho <;> simp [ho, hN] at h <;> omega

/-- the end of a round -/
structure RdEnd (w w' : World) (len k : Nat) (ps : List B.Ins) (st : Nat → Option Nat) : Prop where
 row : StRow w' w.heap.size (len + 1) st
 below : Below w.heap.size w w'

set_option maxRecDepth 100000 in
set_option maxHeartbeats 6400000 in
theorem reading_any (a : Option Addr) (len cap : Nat) (ps : List B.Ins) (size slots : Int) (w : World) (hp : ProgAt w a len ps) (hok : B.OkTouch ps size slots) (hl : len ≤ 16384) :
    Calls Tryz.prog 96 #[.slice a len cap] w (ReadOut ps w) := by
 have HP := Lib.hid hp
 have HOK := Lib.hid hok
 obtain ⟨C, hmk, hrow⟩ := row_made w len hl
 have HROW := Lib.hid hrow
 clear hp hok hrow
 have hlw : IntKind.i64.wrap ((len : Int) + 1) = (len : Int) + 1 := IntWalk.i64_in _ (by omega)
 go_enter Tryz.func96, Tryz.ntmps96
 go_wp2_with fail
 refine (come_any w.heap.size (len + 1) (fun _ => none) 0 0 _ HROW.out (by omega) (by omega)).mono ?_
 rintro e w1 ⟨rfl, hst1, hg1⟩
 have HST1 := Lib.hid hst1
 have HB1 := Lib.hid (((Below.refl w.heap.size w).alloc (Nat.le_refl _) _).grown hg1 (by simp) (fun k hk => by simp at hk; omega))
 clear hst1 hg1 hmk
 go_wp2_with fail
 go_loopw [17] (fun i wr => ∃ k : Nat, i = .int .i64 k ∧ k ≤ len ∧ (∀ i, i < k → B.badAt ps i = false) ∧ StRow wr w.heap.size (len + 1) (B.stAt ps k) ∧ Below w.heap.size w wr) (fun i _ => len - (intOf i).toNat)
 case atStart =>
  refine ⟨0, rfl, Nat.zero_le _, fun i hi => by omega, ?_, HB1.out⟩
  have e : B.come (fun _ => none) 0 0 = B.stAt ps 0 := by
   funext k
   show B.come (fun _ => none) 0 0 k = if k = 0 then some 0 else none
   unfold B.come
   rfl
  rw [← e]
  exact HST1.out
 case round =>
  obtain ⟨k, rfl, hk, hbad, hst, hb⟩ := hrel
  have hsz := hb.size
  have HB := Lib.hid hb
  have HST := Lib.hid hst
  have HBAD := Lib.hid hbad
  have hLw := hst.blk
  by_cases hlt : k < len
  ·have hx : ps[k]? = some (ps[k]'(by have := HP.out.len; omega)) := List.getElem?_eq_getElem _
   generalize ps[k]'(by have := HP.out.len; omega) = x at hx
   have HX := Lib.hid hx
   obtain ⟨b, off, rfl, hbl, hat⟩ := HP.out.at_ k x hx
   obtain ⟨h0, h1, h2, h3, h4⟩ := hat.below hb hbl
   have hbw : b < wr.heap.size := by omega
   obtain ⟨c0, c1, hf⟩ := hst.cells k (by omega)
   cases hs : B.stAt ps k k with
   | none =>
    rw [hs] at c0
    have c0' : wr.cell? ⟨w.heap.size, k * 2, none⟩ = some (.bool false) := c0
    have HS := Lib.hid hs
    clear c0 c1 hf hx hat hb hst hbad hs
    go_wp2_with fail
    go_roundw
    case rel =>
     refine ⟨k + 1, by go_num, by omega, fun i hi => ?_, by rw [stAt_none HS.out]; exact HST.out.below ((Below.refl _ _).alloc (Nat.le_refl _) _) hLw, HB.out.alloc hsz _⟩
     by_cases e : i = k
     ·subst e; exact badAt_none HS.out
     ·exact HBAD.out i (by omega)
    case measure => simp [intOf]; omega
   | some wv =>
    rw [hs] at c0 c1
    have c0' : wr.cell? ⟨w.heap.size, k * 2, none⟩ = some (.bool true) := c0
    have c1' : wr.cell? ⟨w.heap.size, k * 2 + 1, none⟩ = some (.int .u16 (wv : Nat)) := c1
    have hwv : wv < 65536 := by have := hst.lt k; rw [hs] at this; exact this
    have hr := HOK.out.right k x hx
    have hrb := B.right_bounds hr
    obtain ⟨N, hN⟩ : ∃ N : Nat, x.n = N := ⟨x.n.toNat, by omega⟩
    have hN14 : N ≤ 16384 := by omega
    rw [hN] at h3
    have hent := en_rd x.op
    unfold En at hent
    have hml := mask_lt hr
    have hand := u16_andNot_nat x.mask wv hml hwv
    have HS := Lib.hid hs
    have HR := Lib.hid hr
    have HN := Lib.hid hN
    have HRB := Lib.hid hrb
    have HAZ := Lib.hid (andNot_zero hml hwv)
    generalize hd : x.mask &&& (65535 - wv) = d at *
    clear hd
    clear c0 c1 hf hx hat hb hst hbad hs hr hrb hN
    go_wp2_with fail
    refine (ruled_out x.op _ (isOp_right HR.out)).mono ?_
    rintro e w2 ⟨rfl, hb2⟩
    have hs2 := hb2.size
    have hXw : wr.heap.size < w2.heap.size := by simp at hs2; omega
    have hcx := res_cell hb2 (by simp)
    have d1 := ((hb2.cell (p := ⟨w.heap.size, k * 2 + 1, none⟩) (by simp; omega)).trans (World.cell?_alloc_lt wr _ ⟨w.heap.size, k * 2 + 1, none⟩ hLw)).trans c1'
    have hLw2 : w.heap.size < w2.heap.size := by omega
    have HB2 := Lib.hid (((Below.refl wr.heap.size wr).alloc (Nat.le_refl _) _).trans (hb2.mono (by simp)))
    clear hb2 c0' c1' h0 h1 h2 h3 h4
    go_wp2_with fail
    refine (reads_N x N HN.out _ HR.out).mono ?_
    rintro e w3 ⟨rfl, hb3⟩
    have hs3 := hb3.size
    have hXR := (xr_new (x := x) (N := N) #[.func (.func (rdFn x.op)) #[] #[], .bool (wrB x.op), .func (.func (tcFn x.op)) #[] #[]] hXw hcx 216 rfl rfl).below hb3 (Nat.le_refl _)
    have hLw3 : w.heap.size < w3.heap.size := by simp at hs3; omega
    have HB3 := Lib.hid ((HB.out.trans (HB2.out.mono hsz)).trans (((Below.refl w.heap.size w2).alloc (by omega) _).trans (hb3.mono (by simp; omega))))
    have HST3 := Lib.hid ((HST.out.below HB2.out hLw).below (((Below.refl w2.heap.size w2).alloc (Nat.le_refl _) _).trans (hb3.mono (by simp))) hLw2)
    have hneX : w.heap.size ≠ wr.heap.size := by omega
    have hneR : w.heap.size ≠ w2.heap.size := by omega
    have hk1 : IntKind.i64.wrap ((k : Int) + 1) = (k : Int) + 1 := IntWalk.i64_in _ (by omega)
    have hk2 : IntKind.i64.wrap ((k : Int) + 1 + (N : Int)) = (k : Int) + 1 + (N : Int) := IntWalk.i64_in _ (by omega)
    clear hb3 hcx d1
    by_cases hd0 : d = 0
    ·subst hd0
     have hbad : B.badAt ps k = false := by rw [badAt_some HX.out HS.out, HAZ.out.1 rfl]; simp
     have HBD : Hid (∀ i, i < k + 1 → B.badAt ps i = false) := by
      show ∀ i, i < k + 1 → _
      intro i hi
      by_cases e : i = k
      ·subst e; exact hbad
      ·exact HBAD.out i (by omega)
     have HSN := Lib.hid (stAt_some HX.out HS.out)
     clear hbad
     have HXR := Lib.hid hXR
     obtain ⟨y0, y1, y2, y3, y4, r0, r1, lX, lR⟩ := hXR
     clear y2 y4 r0
     rcases cls x with ho | ho | ho | ⟨h0, h1, h2, hw⟩ | ⟨h0, h1, h2, hw⟩
     ·rw [ho] at y0 r1
      have r1' : w3.cell? ⟨w2.heap.size, 1, none⟩ = some (.bool false) := r1
      have HO := Lib.hid ho
      clear ho r1
      go_wp2_with fail
      go_roundw
      case rel => exact ⟨k + 1, by go_num, by omega, HBD.out, by rw [HSN.out, next_halt HO.out]; exact HST3.out, HB3.out⟩
      case measure => simp [intOf]; omega
     ·rw [ho] at y0 r1
      have r1' : w3.cell? ⟨w2.heap.size, 1, none⟩ = some (.bool false) := r1
      have hgl : k + 1 + N ≤ len := by have := goal_le HOK.out HX.out (.inl ho) HN.out; have := HP.out.len; omega
      have HO := Lib.hid ho
      clear ho r1
      go_wp2_with fail
      refine (come_any w.heap.size (len + 1) _ (k + 1 + N) wv _ HST3.out (by omega) hwv).mono ?_
      rintro e w4 ⟨rfl, hst4, hg4⟩
      have HST4 := Lib.hid hst4
      have HB4 := Lib.hid (HB3.out.grown hg4 (by omega) (fun k hk => by simp at hk; omega))
      clear hst4 hg4
      go_wp2_with fail
      go_roundw
      case rel => exact ⟨k + 1, by go_num, by omega, HBD.out, by (rw [HSN.out, next_skip HO.out, HN.out]; exact HST4.out), HB4.out⟩
      case measure => simp [intOf]; omega
     ·rw [ho] at y0 r1
      have r1' : w3.cell? ⟨w2.heap.size, 1, none⟩ = some (.bool false) := r1
      have hgl : k + 1 + N ≤ len := by have := goal_le HOK.out HX.out (.inr ho) HN.out; have := HP.out.len; omega
      have HO := Lib.hid ho
      clear ho r1
      go_wp2_with fail
      refine (come_any w.heap.size (len + 1) _ (k + 1) wv _ HST3.out (by omega) hwv).mono ?_
      rintro e w4 ⟨rfl, hst4, hg4⟩
      have hxr4 := HXR.out.grown hg4 hneX hneR
      obtain ⟨z0, z1, z2, z3, z4, s0, s1, mX, mR⟩ := hxr4
      rw [HO.out] at z0
      have hLw4 := hst4.blk
      have hs4 := hg4.size
      have HST4 := Lib.hid hst4
      have HB4 := Lib.hid (HB3.out.grown hg4 (by omega) (fun k hk => by simp at hk; omega))
      clear hst4 hg4 z1 z2 z4 s0 s1
      go_wp2_with fail
      refine (come_any w.heap.size (len + 1) _ (k + 1 + N) wv _ HST4.out (by omega) hwv).mono ?_
      rintro e w5 ⟨rfl, hst5, hg5⟩
      have HST5 := Lib.hid hst5
      have HB5 := Lib.hid (HB4.out.grown hg5 (by omega) (fun k hk => by simp at hk; omega))
      clear hst5 hg5
      go_wp2_with fail
      go_roundw
      case rel => exact ⟨k + 1, by go_num, by omega, HBD.out, by (rw [HSN.out, next_ne HO.out, HN.out]; exact HST5.out), HB5.out⟩
      case measure => simp [intOf]; omega
     ·rw [hw] at r1
      have q0 : (x.op != 0) = true := by simpa using h0
      have q0' : (x.op == 0) = false := by simpa using h0
      have q1 : (x.op != 18) = true := by simpa using h1
      have q1' : (x.op == 18) = false := by simpa using h1
      have q2' : (x.op == 19) = false := by simpa using h2
      have ha0 : 0 ≤ x.a := by have := HRB.out; omega
      have ha15 : x.a ≤ 15 := by have := HRB.out; omega
      have hp := pow16 (r := x.a.toNat) (by omega)
      have HNX := Lib.hid (next_on (k := k) (wv := wv) (st := B.stAt ps k) h0 h1 h2)
      have HW := Lib.hid hw
      clear h0 h1 h2 hw
      have hcall := fun (b : Nat) (hb : b = w3.heap.size) => of_one x.a b 3 w3 hb ha0 ha15
      have HC := Lib.hid hcall
      clear hcall
      generalize hpe : 2 ^ x.a.toNat = p at *
      have hor := u16_or_nat wv p hwv hp
      have hlt' : wv ||| p < 65536 := Nat.or_lt_two_pow (n := 16) hwv hp
      clear hpe
      go_wp2_with fail
      refine (HC.out _ rfl).mono ?_
      rintro e w4 ⟨rfl, rfl⟩
      have HST4 := Lib.hid (HST3.out.below ((Below.refl _ _).alloc (Nat.le_refl _) (.cells #[.int .i64 x.a] 3)) hLw3)
      have HB4 := Lib.hid (HB3.out.alloc (by omega) (.cells #[.int .i64 x.a] 3))
      go_wp2_with fail
      refine (come_any w.heap.size (len + 1) _ (k + 1) (wv ||| p) _ HST4.out (by omega) hlt').mono ?_
      rintro e w5 ⟨rfl, hst5, hg5⟩
      have hxr5 := (HXR.out.below ((Below.refl _ _).alloc (Nat.le_refl _) (.cells #[.int .i64 x.a] 3)) (Nat.le_refl _)).grown hg5 hneX hneR
      obtain ⟨z0, z1, z2, z3, z4, s0, s1, mX, mR⟩ := hxr5
      have HST5 := Lib.hid hst5
      have HB5 := Lib.hid (HB4.out.grown hg5 (by simp; omega) (fun k hk => by simp at hk; omega))
      clear hst5 hg5 z1 z2 z3 z4 s0 s1
      go_wp2_with fail
      go_roundw
      case rel => exact ⟨k + 1, by go_num, by omega, HBD.out, by (rw [HSN.out, HNX.out, HW.out, if_pos rfl]; exact HST5.out), HB5.out⟩
      case measure => simp [intOf]; omega
     ·rw [hw] at r1
      have q0 : (x.op != 0) = true := by simpa using h0
      have q0' : (x.op == 0) = false := by simpa using h0
      have q1 : (x.op != 18) = true := by simpa using h1
      have q1' : (x.op == 18) = false := by simpa using h1
      have q2' : (x.op == 19) = false := by simpa using h2
      have HNX := Lib.hid (next_on (k := k) (wv := wv) (st := B.stAt ps k) h0 h1 h2)
      have HW := Lib.hid hw
      clear h0 h1 h2 hw
      go_wp2_with fail
      refine (come_any w.heap.size (len + 1) _ (k + 1) wv _ HST3.out (by omega) hwv).mono ?_
      rintro e w5 ⟨rfl, hst5, hg5⟩
      have hxr5 := HXR.out.grown hg5 hneX hneR
      obtain ⟨z0, z1, z2, z3, z4, s0, s1, mX, mR⟩ := hxr5
      have HST5 := Lib.hid hst5
      have HB5 := Lib.hid (HB3.out.grown hg5 (by omega) (fun k hk => by simp at hk; omega))
      clear hst5 hg5 z1 z2 z3 z4 s0 s1
      go_wp2_with fail
      go_roundw
      case rel => exact ⟨k + 1, by go_num, by omega, HBD.out, by (rw [HSN.out, HNX.out, HW.out, if_neg (by simp)]; exact HST5.out), HB5.out⟩
      case measure => simp [intOf]; omega
    ·have hz1 : ((d : Int) == 0) = false := by simpa using hd0
     have hz2 : ((d : Int) != 0) = true := by simpa using hd0
     have HBK : Hid (B.badAt ps k = true) := by
      show B.badAt ps k = true
      rw [badAt_some HX.out HS.out]
      have : ¬ x.mask &&& wv = x.mask := fun h => hd0 (HAZ.out.2 h)
      simp [this]
     clear hd0
     go_wp2_with fail
     refine (vat_any _ _ _).mono ?_
     rintro e w4 ⟨rfl, rfl⟩
     go_wp2_with fail
     go_ret
     refine ⟨?_, HB3.out⟩
     rw [firstRead_some (by have := HP.out.len; omega) HBAD.out HBK.out]
     rfl
  ·obtain rfl : k = len := by omega
   clear hb hst hbad
   go_wp2_with fail
   go_ret
   refine ⟨?_, HB.out⟩
   rw [B.firstRead_none.2 (fun i hi => HBAD.out i (by have := HP.out.len; omega))]
   rfl

end Code
end Go.Proofs.YtgjeifcmgfmgeaaGreatDoor
