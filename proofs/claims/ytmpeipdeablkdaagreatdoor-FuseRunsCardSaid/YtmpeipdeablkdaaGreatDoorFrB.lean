/- busbarref18: the move in that begins at a place. -/
import Derived.Test.YtmpeipdeablkdaaGreatDoorFrA
import Derived.Test.YtmpeipdeablkdaaGreatDoorRow
import Derived.Test.YtmpeipdeablkdaaGreatDoorKitA
import Derived.StillTailTactics
import Derived.Deep.RegionHeld3
import Derived.Deep.MidRow
import Derived.Laws.ResultCell
namespace Go.Proofs.YtmpeipdeablkdaaGreatDoor
open Go.RowKit

namespace Code

attribute [local go_sem ↓] Go.wp_at_zero Go.wp_at_succ

/-- a move's cells, as the document keeps it -/
def mrF (m : B.Mv) : Array Value := #[.bool m.inn, .int .i64 m.t, .int .i64 m.v, .int .i64 m.way, .int .i64 (m.b : Int), .int .i64 ((m.e : Int) - (m.b : Int)), .int .u64 (m.bits : Int), .int .i64 (m.size : Int)]
def mr0 : Array Value := #[.bool false, .int .i64 0, .int .i64 0, .int .i64 0, .int .i64 0, .int .i64 0, .int .u64 0, .int .i64 0]
/-- is a move answered -/
def mrOut : Option B.Mv → Value
 | some m => .tuple #[.agg (mrF m), .bool true]
 | none => .tuple #[.agg mr0, .bool false]
def MrRet (o : Option B.Mv) (w : World) (e : Ending) (w' : World) : Prop := e = .returned (mrOut o) ∧ Below w.heap.size w w'

theorem infoM137 : (Tryz.prog.info? 137).map (·.size) = some 8 := by kernel_rfl

/-- a row of eight lies in a block -/
def R8 (w : World) (b : Nat) (C : Array Value) : Prop := CellsAt w b 137 8 (fun j => C.getD j undef)
theorem get8 {C : Array Value} (hC : C.size = 8) (j : Nat) (hj : j < 8) : C[j]? = some (C.getD j undef) := by
 have : j < C.size := by omega
 rw [Array.getElem?_eq_getElem this, Array.getD_eq_getD_getElem?, Array.getElem?_eq_getElem this]; rfl
theorem R8.range {w : World} {b : Nat} {C : Array Value} (h : R8 w b C) (hC : C.size = 8) : w.rangeAt b 0 C.toList := by
 refine CellsAt.range h (by simp [hC]) ?_
 intro j v hj
 rw [Array.getElem?_toList] at hj
 have hlt : j < 8 := by have := (Array.getElem?_eq_some_iff.1 hj).1; omega
 rw [get8 hC j hlt] at hj
 rw [Nat.zero_add]
 exact Option.some.inj hj
theorem R8.new (C : Array Value) (hC : C.size = 8) (w : World) {X : Nat} (hX : X = w.heap.size) : R8 (w.alloc (.cells C 137)) X C := by
 subst hX
 have := CellsAt.new C 137 w (fun j => C.getD j undef) (fun j hj => get8 hC j (by omega))
 rw [hC] at this
 exact this
theorem R8.store {w : World} {b : Nat} {D : Array Value} (h : R8 w b D) (C : Array Value) (hC : C.size = 8) : R8 (w.setCells b 0 C.toList) b C := by
 refine CellsAt.congr (CellsAt.setCells C.toList 0 h) (fun j hj => ?_)
 rw [if_pos (by simp [hC]; omega), Nat.sub_zero, List.getD_eq_getElem?_getD, Array.getElem?_toList, get8 hC j hj]
 rfl
/-- a move and a truth are answered -/
theorem ret8 {fn : Func} {p u : Nat} (hr : fn.results = #[.cell p 137, .tmp u]) {tmps : Array Value} {wz : World} {R : Nat} {C : Array Value} (hC : C.size = 8) {c : Bool} (hp : tmps.getD p undef = .pointer (some ⟨R, 0, none⟩)) (hu : tmps.getD u undef = .bool c) (hm : R8 wz R C) :
    (results fn tmps).run Tryz.prog wz = .ok (.tuple #[.agg C, .bool c]) wz := by
 rw [results_cell_tmp hr, hp, hu]
 have hload := run_loadVar_mid (P := Tryz.prog) wz R 0 137 C.toList _ (R8.range hm hC) Tryz.underlying137 rfl (by rw [infoM137]; simp [hC])
 simp only [asAddr, Sem.run_pure, Result.andThen]
 rw [hload]
theorem below_stored {w w' : World} {b : Nat} (h : Below b w w') (hs : b ≤ w'.heap.size) (vs : List Value) : Below b w (w'.setCells b 0 vs) :=
 h.grown (grownBy_setCells b vs 0 w') hs (fun k hk => by have := Option.some.inj hk; omega)

theorem atR_bd {p : List B.Ins} (hr : ∀ x ∈ p, x.right = true) (i : Nat) : (-1 ≤ (B.atR p i).op ∧ (B.atR p i).op ≤ 19) ∧ (0 ≤ (B.atR p i).a ∧ (B.atR p i).a ≤ 15) ∧ (0 ≤ (B.atR p i).b ∧ (B.atR p i).b ≤ 63) ∧ (0 ≤ (B.atR p i).n ∧ (B.atR p i).n ≤ 16384) ∧ (0 ≤ (B.atR p i).imm ∧ (B.atR p i).imm ≤ 18446744073709551615) := by
 unfold B.atR
 cases h : p[i]? with
 | none => simp [B.noI]
 | some x =>
  have := B.right_bounds (hr x (List.mem_of_getElem? h))
  simp only [Option.getD_some]
  omega
/-- what is laid by a move in -/
theorem blend_bd {x : B.Ins} (h : x.right = true) (h13 : x.op = 13) : 1 ≤ x.n ∧ x.n ≤ 8 := by
 simp [B.Ins.right, h13, B.loN, B.hiN, B.hiB, B.hiImm] at h
 omega
theorem load_bd {x : B.Ins} (h : x.right = true) (h9 : x.op = 9) : 1 ≤ x.n ∧ x.n ≤ 8 := by
 simp [B.Ins.right, h9, B.loN, B.hiN, B.hiB, B.hiImm] at h
 omega
theorem atR_right {p : List B.Ins} (hr : ∀ x ∈ p, x.right = true) {i : Nat} (h : (B.atR p i).op ≠ -1) : (B.atR p i).right = true := by
 unfold B.atR at h ⊢
 cases hx : p[i]? with
 | none => rw [hx] at h; simp [B.noI] at h
 | some x => exact hr x (List.mem_of_getElem? hx)

/-- an instruction in a box of its own -/
theorem insAt_box (x : B.Ins) (w : World) {X : Nat} (hX : X = w.heap.size) : InsAt (w.alloc (.cells #[.int .i64 x.op, .int .i64 x.a, .int .i64 x.b, .int .i64 x.n, .int .u64 x.imm] 24)) X 0 x := by
 subst hX
 exact insAt_new x w

set_option maxRecDepth 100000 in
set_option maxHeartbeats 6400000 in
theorem in18_any (a : Option Addr) (len cap : Nat) (ps : List B.Ins) (i : Nat) (w : World) (hp : ProgAt w a len ps) (hr : ∀ x ∈ ps, x.right = true) (hl : len ≤ 16384) (hi : i ≤ 17000) :
    Calls Tryz.prog 176 #[.slice a len cap, .int .i64 (i : Int)] w (MrRet (B.inR ps i) w) := by
 have HA : Hid (∀ (k : Nat) (n : Int) (W : World), n = (k : Int) → k ≤ 20000 → Below w.heap.size w W → Calls Tryz.prog 203 #[.slice a len cap, .int .i64 n] W (AtOut (B.atR ps k) W)) := Lib.hid (fun k n W e hk hb => by subst e; exact at18_any a len cap ps k W (hp.below hb (Nat.le_refl _)) hl hk)
 have HBD := Lib.hid (atR_bd hr)
 have HR := Lib.hid hr
 obtain ⟨ro, hro⟩ : ∃ ro, B.inR ps i = ro := ⟨_, rfl⟩
 rw [hro]
 unfold B.inR at hro
 clear hp hr
 obtain ⟨w1, hw1⟩ : ∃ w1, w.alloc (.cells mr0 137) = w1 := ⟨_, rfl⟩
 have HB1 : Hid (Below w.heap.size w w1) := Lib.hid (by rw [← hw1]; exact (Below.refl _ _).alloc (Nat.le_refl _) _)
 have HR1 : Hid (R8 w1 w.heap.size mr0) := Lib.hid (by rw [← hw1]; exact R8.new mr0 rfl w rfl)
 have hz1 : w.heap.size < w1.heap.size := by rw [← hw1]; simp
 have hw1' : w.alloc (.cells #[.bool false, .int .i64 0, .int .i64 0, .int .i64 0, .int .i64 0, .int .i64 0, .int .u64 0, .int .i64 0] 137) = w1 := hw1
 clear hw1
 have s1 : IntKind.i64.wrap ((i : Int) + 1) = (i : Int) + 1 := IntWalk.i64_in _ (by omega)
 have s2 : IntKind.i64.wrap ((i : Int) + 1 + 1) = (i : Int) + 1 + 1 := IntWalk.i64_in _ (by omega)
 have s3 : IntKind.i64.wrap ((i : Int) + 2) = (i : Int) + 2 := IntWalk.i64_in _ (by omega)
 have s4 : IntKind.i64.wrap ((i : Int) + 2 + 1) = (i : Int) + 2 + 1 := IntWalk.i64_in _ (by omega)
 go_enter Tryz.func176, Tryz.ntmps176
 go_upto_region 1 with fail
 try rw [hw1']
 clear hw1'
 go_wp2_with fail
 refine (HA.out i _ w1 rfl (by omega) HB1.out).mono ?_
 rintro e w2 ⟨rfl, hb2⟩
 obtain ⟨hxo, hxa, hxb, hxn, -⟩ := HBD.out i
 have HXR := Lib.hid (@atR_right ps HR.out i)
 obtain ⟨x, hx⟩ : ∃ x, B.atR ps i = x := ⟨_, rfl⟩
 rw [hx] at hxo hxa hxb hxn hro HXR ⊢
 obtain ⟨X3, hX3⟩ : ∃ X, w2.heap.size = X := ⟨_, rfl⟩
 obtain ⟨v3, hv3⟩ : ∃ v, w2.alloc (.cells #[.int .i64 x.op, .int .i64 x.a, .int .i64 x.b, .int .i64 x.n, .int .u64 x.imm] 24) = v := ⟨_, rfl⟩
 have hi : InsAt v3 X3 0 x := by rw [← hv3]; exact insAt_box x w2 hX3.symm
 have hb' : Below w2.heap.size w2 v3 := by rw [← hv3]; exact (Below.refl _ _).alloc (Nat.le_refl _) _
 have hX3l : X3 < v3.heap.size := by rw [← hv3, ← hX3]; simp
 have hb13 := hb2.trans (hb'.mono hb2.size)
 have HB3 := Lib.hid (HB1.out.trans (hb13.mono HB1.out.size))
 have HR3 := Lib.hid (CellsAt.below HR1.out hb13 hz1)
 have hwX : w.heap.size < X3 := by have := hb2.size; omega
 have HI3 := Lib.hid hi
 obtain ⟨c0, c1, c2, c3, -⟩ := hi
 simp only [Nat.zero_add] at c1 c2 c3
 clear hx hb' hb2 hb13 HB1 HR1
 unfold insR
 by_cases hA : x.op = 2 ∧ x.a ≠ x.b
 ·rw [if_pos hA] at hro
  have q0 : (x.op != 2) = false := by simp [hA.1]
  have q1 : (x.a == x.b) = false := by simpa using hA.2
  have HAA := Lib.hid hA
  clear hA
  go_upto_region 4 with fail
  have HSB := Lib.hid (HBD.out (i + 1)).2.2.2.1
  go_region_held3 (fun w' => w'.cell? ⟨X3, 1, none⟩ = some (.int .i64 x.a))
   (first
    | exact c1
    | exact (hb6.cell (p := ⟨X3, 1, none⟩) hX3l).trans c1
    | exact c16
    | exact c17
    | assumption)
   (first
    | (go_at_call 203; refine (HA.out (i + 1) _ _ (by omega) (by omega) HB3.out.drew).mono ?_; rintro e w6 ⟨rfl, hb6⟩; unfold insR; have hs6 : v3.heap.size ≤ w6.heap.size := hb6.size; have c16 : w6.cell? ⟨X3, 1, none⟩ = some (.int .i64 x.a) := (hb6.cell (p := ⟨X3, 1, none⟩) hX3l).trans c1)
    | (go_at_call 204; refine (shift18_any _ _ _ HSB.out).mono ?_; rintro e w7 ⟨rfl, hb7⟩; have hs7 : w6.heap.size ≤ w7.heap.size := hb7.size; have c17 : w7.cell? ⟨X3, 1, none⟩ = some (.int .i64 x.a) := (hb7.cell (p := ⟨X3, 1, none⟩) (show X3 < _ by omega)).trans c16))
  clear c16
  have HB7 := Lib.hid (HB3.out.trans ((((Below.refl _ _).drew.trans hb6).trans (hb7.mono hs6)).mono HB3.out.size))
  have HR7 := Lib.hid (CellsAt.below HR3.out (((Below.refl v3.heap.size v3).drew.trans hb6).trans (hb7.mono hs6)) (by omega))
  have HI7 := Lib.hid ((HI3).out.below (((Below.refl v3.heap.size v3).drew.trans hb6).trans (hb7.mono hs6)) hX3l)

  obtain ⟨sh, hsh⟩ : ∃ sh, B.shR (B.atR ps (i + 1)) x.a = sh := ⟨_, rfl⟩
  simp only [hsh] at hro ⊢
  obtain ⟨sv, sb⟩ := sh
  have HSV : Hid (-16384 ≤ sv ∧ sv ≤ 16384) := Lib.hid (by
   have h1 := HSB.out
   unfold B.shR at hsh
   split at hsh
   ·cases hsh; omega
   ·split at hsh <;> (cases hsh; omega))
  clear hsh hb6 hb7
  cases sb with
  | true =>
   simp only [Bool.toNat_true, Nat.reduceAdd] at hro
   go_upto_region 8 with fail
   go_wp2_with fail
   refine (HA.out (i + 2) _ w7 (by omega) (by omega) HB7.out).mono ?_
   rintro e w8 ⟨rfl, hb8⟩
   obtain ⟨z, hz⟩ : ∃ z, B.atR ps (i + 2) = z := ⟨_, rfl⟩
   have HZB := Lib.hid (HBD.out (i + 2))
   have HZR := Lib.hid (@atR_right ps HR.out (i + 2))
   rw [hz] at hro HZB HZR ⊢
   obtain ⟨X9, hX9⟩ : ∃ X, w8.heap.size = X := ⟨_, rfl⟩
   obtain ⟨v9, hv9⟩ : ∃ v, w8.alloc (.cells #[.int .i64 z.op, .int .i64 z.a, .int .i64 z.b, .int .i64 z.n, .int .u64 z.imm] 24) = v := ⟨_, rfl⟩
   have hi : InsAt v9 X9 0 z := by rw [← hv9]; exact insAt_box z w8 hX9.symm
   have hb' : Below w8.heap.size w8 v9 := by rw [← hv9]; exact (Below.refl _ _).alloc (Nat.le_refl _) _
   have hX9l : X9 < v9.heap.size := by rw [← hv9, ← hX9]; simp
   have hb79 := hb8.trans (hb'.mono hb8.size)
   have HB9 := Lib.hid (HB7.out.trans (hb79.mono HB7.out.size))
   have HR9 := Lib.hid (CellsAt.below HR7.out hb79 (CellsAt.blk HR7.out))
   have HI9 := Lib.hid (HI7.out.below hb79 (World.block_lt_of_cell? w7 _ HI7.out.c0))
   obtain ⟨g0, g1, g2, g3, g4⟩ := hi
   simp only [Nat.zero_add] at g1 g2 g3 g4
   clear c0 c1 c2 c3
   obtain ⟨c0, c1, c2, c3, c4⟩ := HI9.out
   simp only [Nat.zero_add] at c1 c2 c3 c4


   clear hz hb' hb8 hb79 hX9l
   unfold insR
   by_cases hC : z.op = 13 ∧ z.a = x.a
   ·rw [if_pos hC] at hro
    have r0 : (z.op != 13) = false := by simp [hC.1]
    have r1 : (z.a != x.a) = false := by simp [hC.2]
    have hzr : 1 ≤ z.n ∧ z.n ≤ 8 := blend_bd (HZR.out (by omega)) hC.1
    obtain ⟨-, -, hzb, -, hzi⟩ := HZB.out
    have HCC := Lib.hid hC
    clear hC
    have t1 : IntKind.i64.wrap (8 * z.b) = 8 * z.b := IntWalk.i64_in _ (by omega)
    have t2 : IntKind.i64.wrap (8 * z.b + sv) = 8 * z.b + sv := IntWalk.i64_in _ (by have := HSV.out; omega)
    have t3 : IntKind.i64.wrap ((i : Int) + 1 + 1 + 1) = (i : Int) + 1 + 1 + 1 := IntWalk.i64_in _ (by omega)
    have t4 : IntKind.i64.wrap ((i : Int) + 1 + 1 + 1 - (i : Int)) = 3 := by rw [IntWalk.i64_in _ (by omega)]; omega
    have HLOW : Hid (∀ W, Calls Tryz.prog 205 #[.int .u64 z.imm, .int .i64 z.n] W fun e w' => e = .returned (.int .u64 (B.lowBits z.imm.toNat z.n.toNat : Int)) ∧ w' = W) := Lib.hid (fun W => by
     have := low18_any z.imm.toNat z.n.toNat W (by omega) (by omega) (by omega)
     unfold LowOut at this
     rw [Int.toNat_of_nonneg (by omega), Int.toNat_of_nonneg (by omega)] at this
     exact this)
    obtain ⟨C, hC⟩ : ∃ C : Array Value, C = #[.bool true, .int .i64 x.a, .int .i64 x.b, .int .i64 (8 * z.b + sv), .int .i64 z.b, .int .i64 z.n, .int .u64 (B.lowBits z.imm.toNat z.n.toNat : Int), .int .i64 3] := ⟨_, rfl⟩
    have HCM : Hid (ro = some ⟨true, x.a, x.b, 8 * z.b + sv, z.b.toNat, (z.b + z.n).toNat, B.lowBits z.imm.toNat z.n.toNat, 3⟩ ∧ C = mrF ⟨true, x.a, x.b, 8 * z.b + sv, z.b.toNat, (z.b + z.n).toNat, B.lowBits z.imm.toNat z.n.toNat, 3⟩) := Lib.hid ⟨hro.symm, by
     rw [hC]
     unfold mrF
     simp only [Int.toNat_of_nonneg (show 0 ≤ z.b by omega), Int.toNat_of_nonneg (show 0 ≤ z.b + z.n by omega)]
     rw [show z.b + z.n - z.b = z.n by omega]
     rfl⟩
    have HCE := Lib.hid hC
    clear hro hC
    go_upto_region 11 with fail
    refine wp_region_still_tail 23 (by kernel_rfl) (by kernel_rfl) ?_
    simp only [List.take_succ_cons, List.take_zero, List.drop_succ_cons, List.drop_zero]
    repeat (first | still_step | still_call (HLOW.out _))
    refine wpStill_nil ?_
    change wpList _ _ _ _ _ v9.drew
    have HRd : Hid (R8 v9.drew w.heap.size mr0) := Lib.hid (CellsAt.of HR9.out rfl)
    have HSn := Lib.hid (below_stored HB9.out.drew HB9.out.drew.size (#[.bool true, .int .i64 x.a, .int .i64 x.b, .int .i64 (8 * z.b + sv), .int .i64 z.b, .int .i64 z.n, .int .u64 (B.lowBits z.imm.toNat z.n.toNat : Int), .int .i64 3] : Array Value).toList)
    have HMn := Lib.hid (R8.store HRd.out #[.bool true, .int .i64 x.a, .int .i64 x.b, .int .i64 (8 * z.b + sv), .int .i64 z.b, .int .i64 z.n, .int .u64 (B.lowBits z.imm.toNat z.n.toNat : Int), .int .i64 3] rfl)
    have HTn := Lib.hid (CellsAt.there HRd.out (o := 0) (m := 8) (by omega))
    have HEN : Hid ((Ending.returned (.tuple #[.agg #[.bool true, .int .i64 x.a, .int .i64 x.b, .int .i64 (8 * z.b + sv), .int .i64 z.b, .int .i64 z.n, .int .u64 (B.lowBits z.imm.toNat z.n.toNat : Int), .int .i64 3], .bool true])) = .returned (mrOut ro)) := Lib.hid (by rw [HCM.out.1, ← HCE.out, HCM.out.2]; rfl)
    go_wp2_with (refine wpList_store_mid (by rfl) 137 _ _ (by rfl) w.heap.size 0 #[.bool true, .int .i64 x.a, .int .i64 x.b, .int .i64 (8 * z.b + sv), .int .i64 z.b, .int .i64 z.n, .int .u64 (B.lowBits z.imm.toNat z.n.toNat : Int), .int .i64 3] (by rfl) (by rfl) HTn.out (by rw [infoM137]; rfl) (by simp [Value.oneCell']) ?_)
    exact bodyPost_ret (v := .tuple #[.agg #[.bool true, .int .i64 x.a, .int .i64 x.b, .int .i64 (8 * z.b + sv), .int .i64 z.b, .int .i64 z.n, .int .u64 (B.lowBits z.imm.toNat z.n.toNat : Int), .int .i64 3], .bool true]) (ret8 (p := 4) (u := 5) (by kernel_rfl) rfl (by rfl) (by rfl) HMn.out) rfl ⟨HEN.out, HSn.out⟩
   ·rw [if_neg hC] at hro
    subst hro
    by_cases h0 : z.op = 13
    ·have r0 : (z.op != 13) = false := by simp [h0]
     have r1 : (z.a != x.a) = true := by simp; exact fun h => hC ⟨h0, h⟩
     clear hC h0
     go_upto_region 10 with fail
     have HSn := Lib.hid (below_stored HB9.out HB9.out.size mr0.toList)
     have HMn := Lib.hid (R8.store HR9.out mr0 rfl)
     have HTn := Lib.hid (CellsAt.there HR9.out (o := 0) (m := 8) (by omega))
     go_wp2_with (refine wpList_store_mid (by rfl) 137 _ _ (by rfl) w.heap.size 0 mr0 (by rfl) (by rfl) HTn.out (by rw [infoM137]; rfl) (by simp [mr0, Value.oneCell']) ?_)
     exact bodyPost_ret (v := .tuple #[.agg mr0, .bool false]) (ret8 (p := 4) (u := 5) (by kernel_rfl) rfl (by rfl) (by rfl) HMn.out) rfl ⟨rfl, HSn.out⟩
    ·have r0 : (z.op != 13) = true := by simp [h0]
     clear hC h0
     go_upto_region 10 with fail
     have HSn := Lib.hid (below_stored HB9.out HB9.out.size mr0.toList)
     have HMn := Lib.hid (R8.store HR9.out mr0 rfl)
     have HTn := Lib.hid (CellsAt.there HR9.out (o := 0) (m := 8) (by omega))
     go_wp2_with (refine wpList_store_mid (by rfl) 137 _ _ (by rfl) w.heap.size 0 mr0 (by rfl) (by rfl) HTn.out (by rw [infoM137]; rfl) (by simp [mr0, Value.oneCell']) ?_)
     exact bodyPost_ret (v := .tuple #[.agg mr0, .bool false]) (ret8 (p := 4) (u := 5) (by kernel_rfl) rfl (by rfl) (by rfl) HMn.out) rfl ⟨rfl, HSn.out⟩
  | false =>
   simp only [Bool.toNat_false, Nat.add_zero, Nat.reduceAdd] at hro
   go_upto_region 8 with fail
   go_wp2_with fail
   refine (HA.out (i + 1) _ w7 (by omega) (by omega) HB7.out).mono ?_
   rintro e w8 ⟨rfl, hb8⟩
   obtain ⟨z, hz⟩ : ∃ z, B.atR ps (i + 1) = z := ⟨_, rfl⟩
   have HZB := Lib.hid (HBD.out (i + 1))
   have HZR := Lib.hid (@atR_right ps HR.out (i + 1))
   rw [hz] at hro HZB HZR ⊢
   obtain ⟨X9, hX9⟩ : ∃ X, w8.heap.size = X := ⟨_, rfl⟩
   obtain ⟨v9, hv9⟩ : ∃ v, w8.alloc (.cells #[.int .i64 z.op, .int .i64 z.a, .int .i64 z.b, .int .i64 z.n, .int .u64 z.imm] 24) = v := ⟨_, rfl⟩
   have hi : InsAt v9 X9 0 z := by rw [← hv9]; exact insAt_box z w8 hX9.symm
   have hb' : Below w8.heap.size w8 v9 := by rw [← hv9]; exact (Below.refl _ _).alloc (Nat.le_refl _) _
   have hX9l : X9 < v9.heap.size := by rw [← hv9, ← hX9]; simp
   have hb79 := hb8.trans (hb'.mono hb8.size)
   have HB9 := Lib.hid (HB7.out.trans (hb79.mono HB7.out.size))
   have HR9 := Lib.hid (CellsAt.below HR7.out hb79 (CellsAt.blk HR7.out))
   have HI9 := Lib.hid (HI7.out.below hb79 (World.block_lt_of_cell? w7 _ HI7.out.c0))
   obtain ⟨g0, g1, g2, g3, g4⟩ := hi
   simp only [Nat.zero_add] at g1 g2 g3 g4
   clear c0 c1 c2 c3
   obtain ⟨c0, c1, c2, c3, c4⟩ := HI9.out
   simp only [Nat.zero_add] at c1 c2 c3 c4


   clear hz hb' hb8 hb79 hX9l
   unfold insR
   by_cases hC : z.op = 13 ∧ z.a = x.a
   ·rw [if_pos hC] at hro
    have r0 : (z.op != 13) = false := by simp [hC.1]
    have r1 : (z.a != x.a) = false := by simp [hC.2]
    have hzr : 1 ≤ z.n ∧ z.n ≤ 8 := blend_bd (HZR.out (by omega)) hC.1
    obtain ⟨-, -, hzb, -, hzi⟩ := HZB.out
    have HCC := Lib.hid hC
    clear hC
    have t1 : IntKind.i64.wrap (8 * z.b) = 8 * z.b := IntWalk.i64_in _ (by omega)
    have t2 : IntKind.i64.wrap (8 * z.b + sv) = 8 * z.b + sv := IntWalk.i64_in _ (by have := HSV.out; omega)
    have t3 : IntKind.i64.wrap ((i : Int) + 1 + 1) = (i : Int) + 1 + 1 := IntWalk.i64_in _ (by omega)
    have t4 : IntKind.i64.wrap ((i : Int) + 1 + 1 - (i : Int)) = 2 := by rw [IntWalk.i64_in _ (by omega)]; omega
    have HLOW : Hid (∀ W, Calls Tryz.prog 205 #[.int .u64 z.imm, .int .i64 z.n] W fun e w' => e = .returned (.int .u64 (B.lowBits z.imm.toNat z.n.toNat : Int)) ∧ w' = W) := Lib.hid (fun W => by
     have := low18_any z.imm.toNat z.n.toNat W (by omega) (by omega) (by omega)
     unfold LowOut at this
     rw [Int.toNat_of_nonneg (by omega), Int.toNat_of_nonneg (by omega)] at this
     exact this)
    obtain ⟨C, hC⟩ : ∃ C : Array Value, C = #[.bool true, .int .i64 x.a, .int .i64 x.b, .int .i64 (8 * z.b + sv), .int .i64 z.b, .int .i64 z.n, .int .u64 (B.lowBits z.imm.toNat z.n.toNat : Int), .int .i64 2] := ⟨_, rfl⟩
    have HCM : Hid (ro = some ⟨true, x.a, x.b, 8 * z.b + sv, z.b.toNat, (z.b + z.n).toNat, B.lowBits z.imm.toNat z.n.toNat, 2⟩ ∧ C = mrF ⟨true, x.a, x.b, 8 * z.b + sv, z.b.toNat, (z.b + z.n).toNat, B.lowBits z.imm.toNat z.n.toNat, 2⟩) := Lib.hid ⟨hro.symm, by
     rw [hC]
     unfold mrF
     simp only [Int.toNat_of_nonneg (show 0 ≤ z.b by omega), Int.toNat_of_nonneg (show 0 ≤ z.b + z.n by omega)]
     rw [show z.b + z.n - z.b = z.n by omega]
     rfl⟩
    have HCE := Lib.hid hC
    clear hro hC
    go_upto_region 11 with fail
    refine wp_region_still_tail 23 (by kernel_rfl) (by kernel_rfl) ?_
    simp only [List.take_succ_cons, List.take_zero, List.drop_succ_cons, List.drop_zero]
    repeat (first | still_step | still_call (HLOW.out _))
    refine wpStill_nil ?_
    change wpList _ _ _ _ _ v9.drew
    have HRd : Hid (R8 v9.drew w.heap.size mr0) := Lib.hid (CellsAt.of HR9.out rfl)
    have HSn := Lib.hid (below_stored HB9.out.drew HB9.out.drew.size (#[.bool true, .int .i64 x.a, .int .i64 x.b, .int .i64 (8 * z.b + sv), .int .i64 z.b, .int .i64 z.n, .int .u64 (B.lowBits z.imm.toNat z.n.toNat : Int), .int .i64 2] : Array Value).toList)
    have HMn := Lib.hid (R8.store HRd.out #[.bool true, .int .i64 x.a, .int .i64 x.b, .int .i64 (8 * z.b + sv), .int .i64 z.b, .int .i64 z.n, .int .u64 (B.lowBits z.imm.toNat z.n.toNat : Int), .int .i64 2] rfl)
    have HTn := Lib.hid (CellsAt.there HRd.out (o := 0) (m := 8) (by omega))
    have HEN : Hid ((Ending.returned (.tuple #[.agg #[.bool true, .int .i64 x.a, .int .i64 x.b, .int .i64 (8 * z.b + sv), .int .i64 z.b, .int .i64 z.n, .int .u64 (B.lowBits z.imm.toNat z.n.toNat : Int), .int .i64 2], .bool true])) = .returned (mrOut ro)) := Lib.hid (by rw [HCM.out.1, ← HCE.out, HCM.out.2]; rfl)
    go_wp2_with (refine wpList_store_mid (by rfl) 137 _ _ (by rfl) w.heap.size 0 #[.bool true, .int .i64 x.a, .int .i64 x.b, .int .i64 (8 * z.b + sv), .int .i64 z.b, .int .i64 z.n, .int .u64 (B.lowBits z.imm.toNat z.n.toNat : Int), .int .i64 2] (by rfl) (by rfl) HTn.out (by rw [infoM137]; rfl) (by simp [Value.oneCell']) ?_)
    exact bodyPost_ret (v := .tuple #[.agg #[.bool true, .int .i64 x.a, .int .i64 x.b, .int .i64 (8 * z.b + sv), .int .i64 z.b, .int .i64 z.n, .int .u64 (B.lowBits z.imm.toNat z.n.toNat : Int), .int .i64 2], .bool true]) (ret8 (p := 4) (u := 5) (by kernel_rfl) rfl (by rfl) (by rfl) HMn.out) rfl ⟨HEN.out, HSn.out⟩
   ·rw [if_neg hC] at hro
    subst hro
    by_cases h0 : z.op = 13
    ·have r0 : (z.op != 13) = false := by simp [h0]
     have r1 : (z.a != x.a) = true := by simp; exact fun h => hC ⟨h0, h⟩
     clear hC h0
     go_upto_region 10 with fail
     have HSn := Lib.hid (below_stored HB9.out HB9.out.size mr0.toList)
     have HMn := Lib.hid (R8.store HR9.out mr0 rfl)
     have HTn := Lib.hid (CellsAt.there HR9.out (o := 0) (m := 8) (by omega))
     go_wp2_with (refine wpList_store_mid (by rfl) 137 _ _ (by rfl) w.heap.size 0 mr0 (by rfl) (by rfl) HTn.out (by rw [infoM137]; rfl) (by simp [mr0, Value.oneCell']) ?_)
     exact bodyPost_ret (v := .tuple #[.agg mr0, .bool false]) (ret8 (p := 4) (u := 5) (by kernel_rfl) rfl (by rfl) (by rfl) HMn.out) rfl ⟨rfl, HSn.out⟩
    ·have r0 : (z.op != 13) = true := by simp [h0]
     clear hC h0
     go_upto_region 10 with fail
     have HSn := Lib.hid (below_stored HB9.out HB9.out.size mr0.toList)
     have HMn := Lib.hid (R8.store HR9.out mr0 rfl)
     have HTn := Lib.hid (CellsAt.there HR9.out (o := 0) (m := 8) (by omega))
     go_wp2_with (refine wpList_store_mid (by rfl) 137 _ _ (by rfl) w.heap.size 0 mr0 (by rfl) (by rfl) HTn.out (by rw [infoM137]; rfl) (by simp [mr0, Value.oneCell']) ?_)
     exact bodyPost_ret (v := .tuple #[.agg mr0, .bool false]) (ret8 (p := 4) (u := 5) (by kernel_rfl) rfl (by rfl) (by rfl) HMn.out) rfl ⟨rfl, HSn.out⟩
 ·rw [if_neg hA] at hro
  subst hro
  by_cases h0 : x.op = 2
  ·have q0 : (x.op != 2) = false := by simp [h0]
   have q1 : (x.a == x.b) = true := by
    by_cases h : x.a = x.b
    ·simpa using h
    ·exact absurd ⟨h0, h⟩ hA
   clear hA h0
   go_upto_region 3 with fail
   have HSn := Lib.hid (below_stored HB3.out HB3.out.size mr0.toList)
   have HMn := Lib.hid (R8.store HR3.out mr0 rfl)
   have HTn := Lib.hid (CellsAt.there HR3.out (o := 0) (m := 8) (by omega))
   go_wp2_with (refine wpList_store_mid (by rfl) 137 _ _ (by rfl) w.heap.size 0 mr0 (by rfl) (by rfl) HTn.out (by rw [infoM137]; rfl) (by simp [mr0, Value.oneCell']) ?_)
   exact bodyPost_ret (v := .tuple #[.agg mr0, .bool false]) (ret8 (p := 4) (u := 5) (by kernel_rfl) rfl (by rfl) (by rfl) HMn.out) rfl ⟨rfl, HSn.out⟩
  ·have q0 : (x.op != 2) = true := by simp [h0]
   clear hA h0
   go_upto_region 3 with fail
   have HSn := Lib.hid (below_stored HB3.out HB3.out.size mr0.toList)
   have HMn := Lib.hid (R8.store HR3.out mr0 rfl)
   have HTn := Lib.hid (CellsAt.there HR3.out (o := 0) (m := 8) (by omega))
   go_wp2_with (refine wpList_store_mid (by rfl) 137 _ _ (by rfl) w.heap.size 0 mr0 (by rfl) (by rfl) HTn.out (by rw [infoM137]; rfl) (by simp [mr0, Value.oneCell']) ?_)
   exact bodyPost_ret (v := .tuple #[.agg mr0, .bool false]) (ret8 (p := 4) (u := 5) (by kernel_rfl) rfl (by rfl) (by rfl) HMn.out) rfl ⟨rfl, HSn.out⟩

set_option maxRecDepth 100000 in
set_option maxHeartbeats 6400000 in
theorem out18_any (a : Option Addr) (len cap : Nat) (ps : List B.Ins) (i : Nat) (w : World) (hp : ProgAt w a len ps) (hr : ∀ x ∈ ps, x.right = true) (hl : len ≤ 16384) (hi : i ≤ 17000) :
    Calls Tryz.prog 177 #[.slice a len cap, .int .i64 (i : Int)] w (MrRet (B.outR ps i) w) := by
 have HA : Hid (∀ (k : Nat) (n : Int) (W : World), n = (k : Int) → k ≤ 20000 → Below w.heap.size w W → Calls Tryz.prog 203 #[.slice a len cap, .int .i64 n] W (AtOut (B.atR ps k) W)) := Lib.hid (fun k n W e hk hb => by subst e; exact at18_any a len cap ps k W (hp.below hb (Nat.le_refl _)) hl hk)
 have HBD := Lib.hid (atR_bd hr)
 have HR := Lib.hid hr
 obtain ⟨ro, hro⟩ : ∃ ro, B.outR ps i = ro := ⟨_, rfl⟩
 rw [hro]
 unfold B.outR at hro
 clear hp hr
 obtain ⟨w1, hw1⟩ : ∃ w1, w.alloc (.cells mr0 137) = w1 := ⟨_, rfl⟩
 have HB1 : Hid (Below w.heap.size w w1) := Lib.hid (by rw [← hw1]; exact (Below.refl _ _).alloc (Nat.le_refl _) _)
 have HR1 : Hid (R8 w1 w.heap.size mr0) := Lib.hid (by rw [← hw1]; exact R8.new mr0 rfl w rfl)
 have hz1 : w.heap.size < w1.heap.size := by rw [← hw1]; simp
 have hw1' : w.alloc (.cells #[.bool false, .int .i64 0, .int .i64 0, .int .i64 0, .int .i64 0, .int .i64 0, .int .u64 0, .int .i64 0] 137) = w1 := hw1
 clear hw1
 have s1 : IntKind.i64.wrap ((i : Int) + 1) = (i : Int) + 1 := IntWalk.i64_in _ (by omega)
 have s2 : IntKind.i64.wrap ((i : Int) + 1 + 1) = (i : Int) + 1 + 1 := IntWalk.i64_in _ (by omega)
 have s3 : IntKind.i64.wrap ((i : Int) + 2) = (i : Int) + 2 := IntWalk.i64_in _ (by omega)
 have s4 : IntKind.i64.wrap ((i : Int) + 2 + 1) = (i : Int) + 2 + 1 := IntWalk.i64_in _ (by omega)
 go_enter Tryz.func177, Tryz.ntmps177
 go_upto_region 1 with fail
 try rw [hw1']
 clear hw1'
 go_wp2_with fail
 refine (HA.out i _ w1 rfl (by omega) HB1.out).mono ?_
 rintro e w2 ⟨rfl, hb2⟩
 obtain ⟨hxo, hxa, hxb, hxn, -⟩ := HBD.out i
 have HXR := Lib.hid (@atR_right ps HR.out i)
 obtain ⟨x, hx⟩ : ∃ x, B.atR ps i = x := ⟨_, rfl⟩
 rw [hx] at hxo hxa hxb hxn hro HXR ⊢
 obtain ⟨X3, hX3⟩ : ∃ X, w2.heap.size = X := ⟨_, rfl⟩
 obtain ⟨v3, hv3⟩ : ∃ v, w2.alloc (.cells #[.int .i64 x.op, .int .i64 x.a, .int .i64 x.b, .int .i64 x.n, .int .u64 x.imm] 24) = v := ⟨_, rfl⟩
 have hi : InsAt v3 X3 0 x := by rw [← hv3]; exact insAt_box x w2 hX3.symm
 have hb' : Below w2.heap.size w2 v3 := by rw [← hv3]; exact (Below.refl _ _).alloc (Nat.le_refl _) _
 have hX3l : X3 < v3.heap.size := by rw [← hv3, ← hX3]; simp
 have hb13 := hb2.trans (hb'.mono hb2.size)
 have HB3 := Lib.hid (HB1.out.trans (hb13.mono HB1.out.size))
 have HR3 := Lib.hid (CellsAt.below HR1.out hb13 hz1)
 have hwX : w.heap.size < X3 := by have := hb2.size; omega
 have HI3 := Lib.hid hi
 obtain ⟨c0, c1, c2, c3, -⟩ := hi
 simp only [Nat.zero_add] at c1 c2 c3
 clear hx hb' hb2 hb13 HB1 HR1
 unfold insR
 go_upto_region 2 with fail
 go_wp2_with fail
 refine (HA.out (i + 1) _ v3 (by omega) (by omega) HB3.out).mono ?_
 rintro e w4 ⟨rfl, hb4⟩
 obtain ⟨y, hy⟩ : ∃ y, B.atR ps (i + 1) = y := ⟨_, rfl⟩
 have HYB := Lib.hid (HBD.out (i + 1))
 have HYR := Lib.hid (@atR_right ps HR.out (i + 1))
 rw [hy] at hro HYB HYR ⊢
 obtain ⟨X5, hX5⟩ : ∃ X, w4.heap.size = X := ⟨_, rfl⟩
 obtain ⟨v5, hv5⟩ : ∃ v, w4.alloc (.cells #[.int .i64 y.op, .int .i64 y.a, .int .i64 y.b, .int .i64 y.n, .int .u64 y.imm] 24) = v := ⟨_, rfl⟩
 have hi : InsAt v5 X5 0 y := by rw [← hv5]; exact insAt_box y w4 hX5.symm
 have hb' : Below w4.heap.size w4 v5 := by rw [← hv5]; exact (Below.refl _ _).alloc (Nat.le_refl _) _
 have hX5l : X5 < v5.heap.size := by rw [← hv5, ← hX5]; simp
 have hb35 := hb4.trans (hb'.mono hb4.size)
 have HB5 := Lib.hid (HB3.out.trans (hb35.mono HB3.out.size))
 have HR5 := Lib.hid (CellsAt.below HR3.out hb35 (by omega))
 have hX35 : X3 < v5.heap.size := by have := hb35.size; omega
 have HI5 := Lib.hid (HI3.out.below hb35 hX3l)
 have HJ5 := Lib.hid hi
 obtain ⟨e0, e1, e2, e3, e4⟩ := hi
 simp only [Nat.zero_add] at e1 e2 e3 e4
 clear c0 c1 c2 c3
 obtain ⟨c0, c1, c2, c3, -⟩ := HI5.out
 simp only [Nat.zero_add] at c1 c2 c3
 clear hy hb' hb4 hb35 HB3 HR3 hX3l
 unfold insR
 by_cases hA : x.op = 9 ∧ y.op = 8 ∧ y.a = x.a
 ·rw [if_pos hA] at hro
  have q0 : (x.op != 9) = false := by simp [hA.1]
  have q1 : (y.op != 8) = false := by simp [hA.2.1]
  have q2 : (y.a != x.a) = false := by simp [hA.2.2]
  have HAA := Lib.hid hA
  clear hA
  go_upto_region 5 with fail
  have HSB := Lib.hid (HBD.out (i + 2)).2.2.2.1
  go_region_held3 (fun w' => w'.cell? ⟨X3, 1, none⟩ = some (.int .i64 x.a))
   (first
    | exact c1
    | exact (hb6.cell (p := ⟨X3, 1, none⟩) hX35).trans c1
    | exact c16
    | exact c17
    | assumption)
   (first
    | (go_at_call 203; refine (HA.out (i + 2) _ _ (by omega) (by omega) HB5.out.drew).mono ?_; rintro e w6 ⟨rfl, hb6⟩; unfold insR; have hs6 : v5.heap.size ≤ w6.heap.size := hb6.size; have c16 : w6.cell? ⟨X3, 1, none⟩ = some (.int .i64 x.a) := (hb6.cell (p := ⟨X3, 1, none⟩) hX35).trans c1)
    | (go_at_call 204; refine (shift18_any _ _ _ HSB.out).mono ?_; rintro e w7 ⟨rfl, hb7⟩; have hs7 : w6.heap.size ≤ w7.heap.size := hb7.size; have c17 : w7.cell? ⟨X3, 1, none⟩ = some (.int .i64 x.a) := (hb7.cell (p := ⟨X3, 1, none⟩) (show X3 < _ by omega)).trans c16))
  clear c16
  have HB7 := Lib.hid (HB5.out.trans ((((Below.refl _ _).drew.trans hb6).trans (hb7.mono hs6)).mono HB5.out.size))
  have HR7 := Lib.hid (CellsAt.below HR5.out (((Below.refl v5.heap.size v5).drew.trans hb6).trans (hb7.mono hs6)) (by omega))
  have HI7 := Lib.hid ((HI5).out.below (((Below.refl v5.heap.size v5).drew.trans hb6).trans (hb7.mono hs6)) hX35)
  have HJ7 := Lib.hid (HJ5.out.below (((Below.refl v5.heap.size v5).drew.trans hb6).trans (hb7.mono hs6)) hX5l)
  obtain ⟨sh, hsh⟩ : ∃ sh, B.shR (B.atR ps (i + 2)) x.a = sh := ⟨_, rfl⟩
  simp only [hsh] at hro ⊢
  obtain ⟨sv, sb⟩ := sh
  have HSV : Hid (-16384 ≤ sv ∧ sv ≤ 16384) := Lib.hid (by
   have h1 := HSB.out
   unfold B.shR at hsh
   split at hsh
   ·cases hsh; omega
   ·split at hsh <;> (cases hsh; omega))
  clear hsh hb6 hb7
  cases sb with
  | true =>
   simp only [Bool.toNat_true, Nat.reduceAdd] at hro
   go_upto_region 9 with fail
   go_wp2_with fail
   refine (HA.out (i + 3) _ w7 (by omega) (by omega) HB7.out).mono ?_
   rintro e w8 ⟨rfl, hb8⟩
   obtain ⟨z, hz⟩ : ∃ z, B.atR ps (i + 3) = z := ⟨_, rfl⟩
   have HZB := Lib.hid (HBD.out (i + 3))
   have HZR := Lib.hid (@atR_right ps HR.out (i + 3))
   rw [hz] at hro HZB HZR ⊢
   obtain ⟨X9, hX9⟩ : ∃ X, w8.heap.size = X := ⟨_, rfl⟩
   obtain ⟨v9, hv9⟩ : ∃ v, w8.alloc (.cells #[.int .i64 z.op, .int .i64 z.a, .int .i64 z.b, .int .i64 z.n, .int .u64 z.imm] 24) = v := ⟨_, rfl⟩
   have hi : InsAt v9 X9 0 z := by rw [← hv9]; exact insAt_box z w8 hX9.symm
   have hb' : Below w8.heap.size w8 v9 := by rw [← hv9]; exact (Below.refl _ _).alloc (Nat.le_refl _) _
   have hX9l : X9 < v9.heap.size := by rw [← hv9, ← hX9]; simp
   have hb79 := hb8.trans (hb'.mono hb8.size)
   have HB9 := Lib.hid (HB7.out.trans (hb79.mono HB7.out.size))
   have HR9 := Lib.hid (CellsAt.below HR7.out hb79 (CellsAt.blk HR7.out))
   have HI9 := Lib.hid (HI7.out.below hb79 (World.block_lt_of_cell? w7 _ HI7.out.c0))
   have HJ9 := Lib.hid (HJ7.out.below hb79 (World.block_lt_of_cell? w7 _ HJ7.out.c0))
   obtain ⟨g0, g1, g2, g3, g4⟩ := hi
   simp only [Nat.zero_add] at g1 g2 g3 g4
   clear c0 c1 c2 c3 e0 e1 e2 e3 e4
   obtain ⟨c0, c1, c2, c3, c4⟩ := HI9.out
   simp only [Nat.zero_add] at c1 c2 c3 c4
   obtain ⟨e0, e1, e2, e3, e4⟩ := HJ9.out
   simp only [Nat.zero_add] at e1 e2 e3 e4
   clear hz hb' hb8 hb79 hX9l
   unfold insR
   by_cases hC : z.op = 4 ∧ z.b = x.a ∧ z.a ≠ x.a
   ·rw [if_pos hC] at hro
    have r0 : (z.op != 4) = false := by simp [hC.1]
    have r1 : (z.b != x.a) = false := by simp [hC.2.1]
    have r2 : (z.a == x.a) = false := by simpa using hC.2.2
    have hzr : 1 ≤ x.n ∧ x.n ≤ 8 := load_bd (HXR.out (by have := HAA.out.1; omega)) HAA.out.1
    obtain ⟨-, -, -, -, hzi⟩ := HYB.out
    have HCC := Lib.hid hC
    clear hC
    have t1 : IntKind.i64.wrap (8 * x.b) = 8 * x.b := IntWalk.i64_in _ (by omega)
    have t2 : IntKind.i64.wrap (sv - 8 * x.b) = sv - 8 * x.b := IntWalk.i64_in _ (by have := HSV.out; omega)
    have t3 : IntKind.i64.wrap ((i : Int) + 2 + 1 + 1) = (i : Int) + 2 + 1 + 1 := IntWalk.i64_in _ (by omega)
    have t4 : IntKind.i64.wrap ((i : Int) + 2 + 1 + 1 - (i : Int)) = 4 := by rw [IntWalk.i64_in _ (by omega)]; omega
    have HLOW : Hid (∀ W, Calls Tryz.prog 205 #[.int .u64 y.imm, .int .i64 x.n] W fun e w' => e = .returned (.int .u64 (B.lowBits y.imm.toNat x.n.toNat : Int)) ∧ w' = W) := Lib.hid (fun W => by
     have := low18_any y.imm.toNat x.n.toNat W (by omega) (by omega) (by omega)
     unfold LowOut at this
     rw [Int.toNat_of_nonneg (by omega), Int.toNat_of_nonneg (by omega)] at this
     exact this)
    obtain ⟨C, hC⟩ : ∃ C : Array Value, C = #[.bool false, .int .i64 x.a, .int .i64 z.a, .int .i64 (sv - 8 * x.b), .int .i64 x.b, .int .i64 x.n, .int .u64 (B.lowBits y.imm.toNat x.n.toNat : Int), .int .i64 4] := ⟨_, rfl⟩
    have HCM : Hid (ro = some ⟨false, x.a, z.a, sv - 8 * x.b, x.b.toNat, (x.b + x.n).toNat, B.lowBits y.imm.toNat x.n.toNat, 4⟩ ∧ C = mrF ⟨false, x.a, z.a, sv - 8 * x.b, x.b.toNat, (x.b + x.n).toNat, B.lowBits y.imm.toNat x.n.toNat, 4⟩) := Lib.hid ⟨hro.symm, by
     rw [hC]
     unfold mrF
     simp only [Int.toNat_of_nonneg (show 0 ≤ x.b by omega), Int.toNat_of_nonneg (show 0 ≤ x.b + x.n by omega)]
     rw [show x.b + x.n - x.b = x.n by omega]
     rfl⟩
    have HCE := Lib.hid hC
    clear hro hC
    go_upto_region 12 with fail
    refine wp_region_still_tail 23 (by kernel_rfl) (by kernel_rfl) ?_
    simp only [List.take_succ_cons, List.take_zero, List.drop_succ_cons, List.drop_zero]
    repeat (first | still_step | still_call (HLOW.out _))
    refine wpStill_nil ?_
    change wpList _ _ _ _ _ v9.drew
    have HRd : Hid (R8 v9.drew w.heap.size mr0) := Lib.hid (CellsAt.of HR9.out rfl)
    have HSn := Lib.hid (below_stored HB9.out.drew HB9.out.drew.size (#[.bool false, .int .i64 x.a, .int .i64 z.a, .int .i64 (sv - 8 * x.b), .int .i64 x.b, .int .i64 x.n, .int .u64 (B.lowBits y.imm.toNat x.n.toNat : Int), .int .i64 4] : Array Value).toList)
    have HMn := Lib.hid (R8.store HRd.out #[.bool false, .int .i64 x.a, .int .i64 z.a, .int .i64 (sv - 8 * x.b), .int .i64 x.b, .int .i64 x.n, .int .u64 (B.lowBits y.imm.toNat x.n.toNat : Int), .int .i64 4] rfl)
    have HTn := Lib.hid (CellsAt.there HRd.out (o := 0) (m := 8) (by omega))
    have HEN : Hid ((Ending.returned (.tuple #[.agg #[.bool false, .int .i64 x.a, .int .i64 z.a, .int .i64 (sv - 8 * x.b), .int .i64 x.b, .int .i64 x.n, .int .u64 (B.lowBits y.imm.toNat x.n.toNat : Int), .int .i64 4], .bool true])) = .returned (mrOut ro)) := Lib.hid (by rw [HCM.out.1, ← HCE.out, HCM.out.2]; rfl)
    go_wp2_with (refine wpList_store_mid (by rfl) 137 _ _ (by rfl) w.heap.size 0 #[.bool false, .int .i64 x.a, .int .i64 z.a, .int .i64 (sv - 8 * x.b), .int .i64 x.b, .int .i64 x.n, .int .u64 (B.lowBits y.imm.toNat x.n.toNat : Int), .int .i64 4] (by rfl) (by rfl) HTn.out (by rw [infoM137]; rfl) (by simp [Value.oneCell']) ?_)
    exact bodyPost_ret (v := .tuple #[.agg #[.bool false, .int .i64 x.a, .int .i64 z.a, .int .i64 (sv - 8 * x.b), .int .i64 x.b, .int .i64 x.n, .int .u64 (B.lowBits y.imm.toNat x.n.toNat : Int), .int .i64 4], .bool true]) (ret8 (p := 4) (u := 5) (by kernel_rfl) rfl (by rfl) (by rfl) HMn.out) rfl ⟨HEN.out, HSn.out⟩
   ·rw [if_neg hC] at hro
    subst hro
    by_cases h0 : z.op = 4
    ·have r0 : (z.op != 4) = false := by simp [h0]
     by_cases h1 : z.b = x.a
     ·have r1 : (z.b != x.a) = false := by simp [h1]
      have r2 : (z.a == x.a) = true := by
       by_cases h : z.a = x.a
       ·simpa using h
       ·exact absurd ⟨h0, h1, h⟩ hC
      clear hC h0 h1
      go_upto_region 11 with fail
      have HSn := Lib.hid (below_stored HB9.out HB9.out.size mr0.toList)
      have HMn := Lib.hid (R8.store HR9.out mr0 rfl)
      have HTn := Lib.hid (CellsAt.there HR9.out (o := 0) (m := 8) (by omega))
      go_wp2_with (refine wpList_store_mid (by rfl) 137 _ _ (by rfl) w.heap.size 0 mr0 (by rfl) (by rfl) HTn.out (by rw [infoM137]; rfl) (by simp [mr0, Value.oneCell']) ?_)
      exact bodyPost_ret (v := .tuple #[.agg mr0, .bool false]) (ret8 (p := 4) (u := 5) (by kernel_rfl) rfl (by rfl) (by rfl) HMn.out) rfl ⟨rfl, HSn.out⟩
     ·have r1 : (z.b != x.a) = true := by simp [h1]
      clear hC h0 h1
      go_upto_region 11 with fail
      have HSn := Lib.hid (below_stored HB9.out HB9.out.size mr0.toList)
      have HMn := Lib.hid (R8.store HR9.out mr0 rfl)
      have HTn := Lib.hid (CellsAt.there HR9.out (o := 0) (m := 8) (by omega))
      go_wp2_with (refine wpList_store_mid (by rfl) 137 _ _ (by rfl) w.heap.size 0 mr0 (by rfl) (by rfl) HTn.out (by rw [infoM137]; rfl) (by simp [mr0, Value.oneCell']) ?_)
      exact bodyPost_ret (v := .tuple #[.agg mr0, .bool false]) (ret8 (p := 4) (u := 5) (by kernel_rfl) rfl (by rfl) (by rfl) HMn.out) rfl ⟨rfl, HSn.out⟩
    ·have r0 : (z.op != 4) = true := by simp [h0]
     clear hC h0
     go_upto_region 11 with fail
     have HSn := Lib.hid (below_stored HB9.out HB9.out.size mr0.toList)
     have HMn := Lib.hid (R8.store HR9.out mr0 rfl)
     have HTn := Lib.hid (CellsAt.there HR9.out (o := 0) (m := 8) (by omega))
     go_wp2_with (refine wpList_store_mid (by rfl) 137 _ _ (by rfl) w.heap.size 0 mr0 (by rfl) (by rfl) HTn.out (by rw [infoM137]; rfl) (by simp [mr0, Value.oneCell']) ?_)
     exact bodyPost_ret (v := .tuple #[.agg mr0, .bool false]) (ret8 (p := 4) (u := 5) (by kernel_rfl) rfl (by rfl) (by rfl) HMn.out) rfl ⟨rfl, HSn.out⟩
  | false =>
   simp only [Bool.toNat_false, Nat.add_zero, Nat.reduceAdd] at hro
   go_upto_region 9 with fail
   go_wp2_with fail
   refine (HA.out (i + 2) _ w7 (by omega) (by omega) HB7.out).mono ?_
   rintro e w8 ⟨rfl, hb8⟩
   obtain ⟨z, hz⟩ : ∃ z, B.atR ps (i + 2) = z := ⟨_, rfl⟩
   have HZB := Lib.hid (HBD.out (i + 2))
   have HZR := Lib.hid (@atR_right ps HR.out (i + 2))
   rw [hz] at hro HZB HZR ⊢
   obtain ⟨X9, hX9⟩ : ∃ X, w8.heap.size = X := ⟨_, rfl⟩
   obtain ⟨v9, hv9⟩ : ∃ v, w8.alloc (.cells #[.int .i64 z.op, .int .i64 z.a, .int .i64 z.b, .int .i64 z.n, .int .u64 z.imm] 24) = v := ⟨_, rfl⟩
   have hi : InsAt v9 X9 0 z := by rw [← hv9]; exact insAt_box z w8 hX9.symm
   have hb' : Below w8.heap.size w8 v9 := by rw [← hv9]; exact (Below.refl _ _).alloc (Nat.le_refl _) _
   have hX9l : X9 < v9.heap.size := by rw [← hv9, ← hX9]; simp
   have hb79 := hb8.trans (hb'.mono hb8.size)
   have HB9 := Lib.hid (HB7.out.trans (hb79.mono HB7.out.size))
   have HR9 := Lib.hid (CellsAt.below HR7.out hb79 (CellsAt.blk HR7.out))
   have HI9 := Lib.hid (HI7.out.below hb79 (World.block_lt_of_cell? w7 _ HI7.out.c0))
   have HJ9 := Lib.hid (HJ7.out.below hb79 (World.block_lt_of_cell? w7 _ HJ7.out.c0))
   obtain ⟨g0, g1, g2, g3, g4⟩ := hi
   simp only [Nat.zero_add] at g1 g2 g3 g4
   clear c0 c1 c2 c3 e0 e1 e2 e3 e4
   obtain ⟨c0, c1, c2, c3, c4⟩ := HI9.out
   simp only [Nat.zero_add] at c1 c2 c3 c4
   obtain ⟨e0, e1, e2, e3, e4⟩ := HJ9.out
   simp only [Nat.zero_add] at e1 e2 e3 e4
   clear hz hb' hb8 hb79 hX9l
   unfold insR
   by_cases hC : z.op = 4 ∧ z.b = x.a ∧ z.a ≠ x.a
   ·rw [if_pos hC] at hro
    have r0 : (z.op != 4) = false := by simp [hC.1]
    have r1 : (z.b != x.a) = false := by simp [hC.2.1]
    have r2 : (z.a == x.a) = false := by simpa using hC.2.2
    have hzr : 1 ≤ x.n ∧ x.n ≤ 8 := load_bd (HXR.out (by have := HAA.out.1; omega)) HAA.out.1
    obtain ⟨-, -, -, -, hzi⟩ := HYB.out
    have HCC := Lib.hid hC
    clear hC
    have t1 : IntKind.i64.wrap (8 * x.b) = 8 * x.b := IntWalk.i64_in _ (by omega)
    have t2 : IntKind.i64.wrap (sv - 8 * x.b) = sv - 8 * x.b := IntWalk.i64_in _ (by have := HSV.out; omega)
    have t3 : IntKind.i64.wrap ((i : Int) + 2 + 1) = (i : Int) + 2 + 1 := IntWalk.i64_in _ (by omega)
    have t4 : IntKind.i64.wrap ((i : Int) + 2 + 1 - (i : Int)) = 3 := by rw [IntWalk.i64_in _ (by omega)]; omega
    have HLOW : Hid (∀ W, Calls Tryz.prog 205 #[.int .u64 y.imm, .int .i64 x.n] W fun e w' => e = .returned (.int .u64 (B.lowBits y.imm.toNat x.n.toNat : Int)) ∧ w' = W) := Lib.hid (fun W => by
     have := low18_any y.imm.toNat x.n.toNat W (by omega) (by omega) (by omega)
     unfold LowOut at this
     rw [Int.toNat_of_nonneg (by omega), Int.toNat_of_nonneg (by omega)] at this
     exact this)
    obtain ⟨C, hC⟩ : ∃ C : Array Value, C = #[.bool false, .int .i64 x.a, .int .i64 z.a, .int .i64 (sv - 8 * x.b), .int .i64 x.b, .int .i64 x.n, .int .u64 (B.lowBits y.imm.toNat x.n.toNat : Int), .int .i64 3] := ⟨_, rfl⟩
    have HCM : Hid (ro = some ⟨false, x.a, z.a, sv - 8 * x.b, x.b.toNat, (x.b + x.n).toNat, B.lowBits y.imm.toNat x.n.toNat, 3⟩ ∧ C = mrF ⟨false, x.a, z.a, sv - 8 * x.b, x.b.toNat, (x.b + x.n).toNat, B.lowBits y.imm.toNat x.n.toNat, 3⟩) := Lib.hid ⟨hro.symm, by
     rw [hC]
     unfold mrF
     simp only [Int.toNat_of_nonneg (show 0 ≤ x.b by omega), Int.toNat_of_nonneg (show 0 ≤ x.b + x.n by omega)]
     rw [show x.b + x.n - x.b = x.n by omega]
     rfl⟩
    have HCE := Lib.hid hC
    clear hro hC
    go_upto_region 12 with fail
    refine wp_region_still_tail 23 (by kernel_rfl) (by kernel_rfl) ?_
    simp only [List.take_succ_cons, List.take_zero, List.drop_succ_cons, List.drop_zero]
    repeat (first | still_step | still_call (HLOW.out _))
    refine wpStill_nil ?_
    change wpList _ _ _ _ _ v9.drew
    have HRd : Hid (R8 v9.drew w.heap.size mr0) := Lib.hid (CellsAt.of HR9.out rfl)
    have HSn := Lib.hid (below_stored HB9.out.drew HB9.out.drew.size (#[.bool false, .int .i64 x.a, .int .i64 z.a, .int .i64 (sv - 8 * x.b), .int .i64 x.b, .int .i64 x.n, .int .u64 (B.lowBits y.imm.toNat x.n.toNat : Int), .int .i64 3] : Array Value).toList)
    have HMn := Lib.hid (R8.store HRd.out #[.bool false, .int .i64 x.a, .int .i64 z.a, .int .i64 (sv - 8 * x.b), .int .i64 x.b, .int .i64 x.n, .int .u64 (B.lowBits y.imm.toNat x.n.toNat : Int), .int .i64 3] rfl)
    have HTn := Lib.hid (CellsAt.there HRd.out (o := 0) (m := 8) (by omega))
    have HEN : Hid ((Ending.returned (.tuple #[.agg #[.bool false, .int .i64 x.a, .int .i64 z.a, .int .i64 (sv - 8 * x.b), .int .i64 x.b, .int .i64 x.n, .int .u64 (B.lowBits y.imm.toNat x.n.toNat : Int), .int .i64 3], .bool true])) = .returned (mrOut ro)) := Lib.hid (by rw [HCM.out.1, ← HCE.out, HCM.out.2]; rfl)
    go_wp2_with (refine wpList_store_mid (by rfl) 137 _ _ (by rfl) w.heap.size 0 #[.bool false, .int .i64 x.a, .int .i64 z.a, .int .i64 (sv - 8 * x.b), .int .i64 x.b, .int .i64 x.n, .int .u64 (B.lowBits y.imm.toNat x.n.toNat : Int), .int .i64 3] (by rfl) (by rfl) HTn.out (by rw [infoM137]; rfl) (by simp [Value.oneCell']) ?_)
    exact bodyPost_ret (v := .tuple #[.agg #[.bool false, .int .i64 x.a, .int .i64 z.a, .int .i64 (sv - 8 * x.b), .int .i64 x.b, .int .i64 x.n, .int .u64 (B.lowBits y.imm.toNat x.n.toNat : Int), .int .i64 3], .bool true]) (ret8 (p := 4) (u := 5) (by kernel_rfl) rfl (by rfl) (by rfl) HMn.out) rfl ⟨HEN.out, HSn.out⟩
   ·rw [if_neg hC] at hro
    subst hro
    by_cases h0 : z.op = 4
    ·have r0 : (z.op != 4) = false := by simp [h0]
     by_cases h1 : z.b = x.a
     ·have r1 : (z.b != x.a) = false := by simp [h1]
      have r2 : (z.a == x.a) = true := by
       by_cases h : z.a = x.a
       ·simpa using h
       ·exact absurd ⟨h0, h1, h⟩ hC
      clear hC h0 h1
      go_upto_region 11 with fail
      have HSn := Lib.hid (below_stored HB9.out HB9.out.size mr0.toList)
      have HMn := Lib.hid (R8.store HR9.out mr0 rfl)
      have HTn := Lib.hid (CellsAt.there HR9.out (o := 0) (m := 8) (by omega))
      go_wp2_with (refine wpList_store_mid (by rfl) 137 _ _ (by rfl) w.heap.size 0 mr0 (by rfl) (by rfl) HTn.out (by rw [infoM137]; rfl) (by simp [mr0, Value.oneCell']) ?_)
      exact bodyPost_ret (v := .tuple #[.agg mr0, .bool false]) (ret8 (p := 4) (u := 5) (by kernel_rfl) rfl (by rfl) (by rfl) HMn.out) rfl ⟨rfl, HSn.out⟩
     ·have r1 : (z.b != x.a) = true := by simp [h1]
      clear hC h0 h1
      go_upto_region 11 with fail
      have HSn := Lib.hid (below_stored HB9.out HB9.out.size mr0.toList)
      have HMn := Lib.hid (R8.store HR9.out mr0 rfl)
      have HTn := Lib.hid (CellsAt.there HR9.out (o := 0) (m := 8) (by omega))
      go_wp2_with (refine wpList_store_mid (by rfl) 137 _ _ (by rfl) w.heap.size 0 mr0 (by rfl) (by rfl) HTn.out (by rw [infoM137]; rfl) (by simp [mr0, Value.oneCell']) ?_)
      exact bodyPost_ret (v := .tuple #[.agg mr0, .bool false]) (ret8 (p := 4) (u := 5) (by kernel_rfl) rfl (by rfl) (by rfl) HMn.out) rfl ⟨rfl, HSn.out⟩
    ·have r0 : (z.op != 4) = true := by simp [h0]
     clear hC h0
     go_upto_region 11 with fail
     have HSn := Lib.hid (below_stored HB9.out HB9.out.size mr0.toList)
     have HMn := Lib.hid (R8.store HR9.out mr0 rfl)
     have HTn := Lib.hid (CellsAt.there HR9.out (o := 0) (m := 8) (by omega))
     go_wp2_with (refine wpList_store_mid (by rfl) 137 _ _ (by rfl) w.heap.size 0 mr0 (by rfl) (by rfl) HTn.out (by rw [infoM137]; rfl) (by simp [mr0, Value.oneCell']) ?_)
     exact bodyPost_ret (v := .tuple #[.agg mr0, .bool false]) (ret8 (p := 4) (u := 5) (by kernel_rfl) rfl (by rfl) (by rfl) HMn.out) rfl ⟨rfl, HSn.out⟩
 ·rw [if_neg hA] at hro
  subst hro
  by_cases h0 : x.op = 9
  ·have q0 : (x.op != 9) = false := by simp [h0]
   by_cases h1 : y.op = 8
   ·have q1 : (y.op != 8) = false := by simp [h1]
    have q2 : (y.a != x.a) = true := by simp; exact fun h => hA ⟨h0, h1, h⟩
    clear hA h0 h1
    go_upto_region 4 with fail
    have HSn := Lib.hid (below_stored HB5.out HB5.out.size mr0.toList)
    have HMn := Lib.hid (R8.store HR5.out mr0 rfl)
    have HTn := Lib.hid (CellsAt.there HR5.out (o := 0) (m := 8) (by omega))
    go_wp2_with (refine wpList_store_mid (by rfl) 137 _ _ (by rfl) w.heap.size 0 mr0 (by rfl) (by rfl) HTn.out (by rw [infoM137]; rfl) (by simp [mr0, Value.oneCell']) ?_)
    exact bodyPost_ret (v := .tuple #[.agg mr0, .bool false]) (ret8 (p := 4) (u := 5) (by kernel_rfl) rfl (by rfl) (by rfl) HMn.out) rfl ⟨rfl, HSn.out⟩
   ·have q1 : (y.op != 8) = true := by simp [h1]
    clear hA h0 h1
    go_upto_region 4 with fail
    have HSn := Lib.hid (below_stored HB5.out HB5.out.size mr0.toList)
    have HMn := Lib.hid (R8.store HR5.out mr0 rfl)
    have HTn := Lib.hid (CellsAt.there HR5.out (o := 0) (m := 8) (by omega))
    go_wp2_with (refine wpList_store_mid (by rfl) 137 _ _ (by rfl) w.heap.size 0 mr0 (by rfl) (by rfl) HTn.out (by rw [infoM137]; rfl) (by simp [mr0, Value.oneCell']) ?_)
    exact bodyPost_ret (v := .tuple #[.agg mr0, .bool false]) (ret8 (p := 4) (u := 5) (by kernel_rfl) rfl (by rfl) (by rfl) HMn.out) rfl ⟨rfl, HSn.out⟩
  ·have q0 : (x.op != 9) = true := by simp [h0]
   clear hA h0
   go_upto_region 4 with fail
   have HSn := Lib.hid (below_stored HB5.out HB5.out.size mr0.toList)
   have HMn := Lib.hid (R8.store HR5.out mr0 rfl)
   have HTn := Lib.hid (CellsAt.there HR5.out (o := 0) (m := 8) (by omega))
   go_wp2_with (refine wpList_store_mid (by rfl) 137 _ _ (by rfl) w.heap.size 0 mr0 (by rfl) (by rfl) HTn.out (by rw [infoM137]; rfl) (by simp [mr0, Value.oneCell']) ?_)
   exact bodyPost_ret (v := .tuple #[.agg mr0, .bool false]) (ret8 (p := 4) (u := 5) (by kernel_rfl) rfl (by rfl) (by rfl) HMn.out) rfl ⟨rfl, HSn.out⟩

end Code
end Go.Proofs.YtmpeipdeablkdaaGreatDoor
