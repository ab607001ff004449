/- Package fold: what takes an instruction's place. -/
import Derived.Test.YtegjeincncccaaaGreatDoorFlD
import Derived.Test.YtegjeincncccaaaGreatDoorRow
import Derived.Deep.MidRow
import Derived.Laws.ResultCell
import Derived.StillTailTactics
namespace Go.Proofs.YtegjeincncccaaaGreatDoor
open Go.RowKit Go.Maps

namespace Code

attribute [local go_sem ↓] Go.wp_at_zero Go.wp_at_succ

def insF (x : B.Ins) : Array Value := #[.int .i64 x.op, .int .i64 x.a, .int .i64 x.b, .int .i64 x.n, .int .u64 x.imm]
theorem infoF24 : (Tryz.prog.info? 24).map (·.size) = some 5 := by kernel_rfl

/-- an instruction's row lies in a block of its own -/
def I5 (w : World) (b : Nat) (C : Array Value) : Prop := CellsAt w b 24 5 (fun j => C.getD j undef)
theorem get5 {C : Array Value} (hC : C.size = 5) (j : Nat) (hj : j < 5) : C[j]? = some (C.getD j undef) := by
 have : j < C.size := by omega
 rw [Array.getElem?_eq_getElem this, Array.getD_eq_getD_getElem?, Array.getElem?_eq_getElem this]; rfl
theorem I5.range {w : World} {b : Nat} {C : Array Value} (h : I5 w b C) (hC : C.size = 5) : w.rangeAt b 0 C.toList := by
 refine CellsAt.range h (by simp [hC]) ?_
 intro j v hj
 rw [Array.getElem?_toList] at hj
 have hlt : j < 5 := by have := (Array.getElem?_eq_some_iff.1 hj).1; omega
 rw [get5 hC j hlt] at hj
 rw [Nat.zero_add]
 exact Option.some.inj hj
theorem I5.new (C : Array Value) (hC : C.size = 5) (w : World) {X : Nat} (hX : X = w.heap.size) : I5 (w.alloc (.cells C 24)) X C := by
 subst hX
 have := CellsAt.new C 24 w (fun j => C.getD j undef) (fun j hj => get5 hC j (by omega))
 rw [hC] at this
 exact this
theorem I5.store {w : World} {b : Nat} {D : Array Value} (h : I5 w b D) (C : Array Value) (hC : C.size = 5) : I5 (w.setCells b 0 C.toList) b C := by
 refine CellsAt.congr (CellsAt.setCells C.toList 0 h) (fun j hj => ?_)
 rw [if_pos (by simp [hC]; omega), Nat.sub_zero, List.getD_eq_getElem?_getD, Array.getElem?_toList, get5 hC j hj]
 rfl
theorem ret_ins {fn : Func} {p : Nat} (hr : fn.results = #[.cell p 24]) {tmps : Array Value} {wz : World} {R : Nat} {C : Array Value} (hC : C.size = 5) (hp : tmps.getD p undef = .pointer (some ⟨R, 0, none⟩)) (hm : I5 wz R C) :
    (results fn tmps).run Tryz.prog wz = .ok (.agg C) wz :=
 results_cell hr hp (run_loadVar_mid (P := Tryz.prog) wz R 0 24 C.toList _ (I5.range hm hC) Tryz.underlying24 rfl (by rw [infoF24]; simp [hC]))
theorem below_stored5 {w w' : World} {b : Nat} (h : Below b w w') (hs : b ≤ w'.heap.size) (vs : List Value) {c : Nat} (hc : b ≤ c) : Below b w (w'.setCells c 0 vs) :=
 h.grown (grownBy_setCells c vs 0 w') hs (fun k hk => by have := Option.some.inj hk; omega)

theorem KnAt.below {w w' : World} {b n N : Nat} {K : B.Kn} (h : KnAt w b n K) (hb : Below N w w') (hN : w.heap.size ≤ N) : KnAt w' b n K :=
 h.kept (row := none) ⟨hb.os, hb.tape, hb.output, hb.size, fun k hk _ => hb.block k (Nat.lt_of_lt_of_le hk hN)⟩ (by simp)

/-- .. in the walk's own words -/
def betV (x : B.Ins) (mk : Option Nat) (kv : Option Nat) : B.Ins := match mk with
 | some v => ⟨1, x.a, 0, 0, (v : Int)⟩
 | none => match kv with
  | some v => if x.op = 19 ∧ (v : Int) ≠ x.imm then ⟨18, 0, 0, x.n, 0⟩
   else if x.op = 19 ∨ (x.op = 17 ∧ B.fits v x.n.toNat (decide (x.imm = 1)) = true) then ⟨18, 0, 0, 0, 0⟩ else x
  | none => x
theorem betV_eq (x : B.Ins) (K : B.Kn) : x.better K = betV x (x.made K) (K x.a) := rfl

set_option maxRecDepth 100000 in
set_option maxHeartbeats 6400000 in
theorem better_any (x : B.Ins) (hr : x.right = true) (b n : Nat) (K : B.Kn) (hK : ∀ r v, K r = some v → v < 18446744073709551616) (w : World) (h : KnAt w b n K) :
    Calls Tryz.prog 54 #[.agg #[.int .i64 x.op, .int .i64 x.a, .int .i64 x.b, .int .i64 x.n, .int .u64 x.imm], .map (some b)] w
     (fun e w' => e = .returned (.agg (insF (x.better K))) ∧ Below w.heap.size w w') := by
 rw [betV_eq]
 have hb := B.right_bounds hr
 have hfit : x.op = 17 → 1 ≤ x.n ∧ x.n ≤ 64 := fun e => by
  unfold B.Ins.right at hr
  rw [e] at hr
  simp [B.isOp, B.hasA, B.hiB, B.loN, B.hiN, B.hiImm] at hr
  omega
 obtain ⟨w1, hw1⟩ : ∃ w1, (w.alloc (.cells #[.int .i64 x.op, .int .i64 x.a, .int .i64 x.b, .int .i64 x.n, .int .u64 x.imm] 24)).alloc (.cells #[.int .i64 0, .int .i64 0, .int .i64 0, .int .i64 0, .int .u64 0] 24) = w1 := ⟨_, rfl⟩
 have HB1 : Hid (Below w.heap.size w w1) := by rw [← hw1]; exact Lib.hid (((Below.refl _ _).alloc (Nat.le_refl _) _).alloc (by simp) _)
 have HX1 : Hid (I5 w1 w.heap.size (insF x)) := by rw [← hw1]; exact Lib.hid (CellsAt.alloc (I5.new (insF x) rfl w rfl) _)
 have HR1 : Hid (I5 w1 (w.heap.size + 1) #[.int .i64 0, .int .i64 0, .int .i64 0, .int .i64 0, .int .u64 0]) := by rw [← hw1]; exact Lib.hid (I5.new _ rfl _ (by simp))
 have HK1 : Hid (KnAt w1 b n K) := by rw [← hw1]; exact Lib.hid ((h.kept (World.grownBy_alloc w _ none) (by simp)).kept (World.grownBy_alloc _ _ none) (by simp))
 have hz1 : w1.heap.size = w.heap.size + 1 + 1 := by rw [← hw1]; simp
 have hbw := h.lt
 have HM : Hid (Calls Tryz.prog 104 #[.agg #[.int .i64 x.op, .int .i64 x.a, .int .i64 x.b, .int .i64 x.n, .int .u64 x.imm], .map (some b)] w1
     (fun e w' => ∃ v : Nat, e = .returned (.tuple #[.int .u64 (v : Int), .bool (x.made K).isSome]) ∧ (∀ z, x.made K = some z → v = z) ∧ Below w1.heap.size w1 w')) := Lib.hid (fmade_any x hr b n K hK w1 HK1.out)
 have HKA : Hid (∀ v, K x.a = some v → v < 18446744073709551616) := Lib.hid (hK x.a)
 clear h hr hK
 have HZ1 := Lib.hid hz1
 have HBW := Lib.hid hbw
 clear hz1 hbw
 obtain ⟨mk, hmk⟩ : ∃ mk, x.made K = mk := ⟨_, rfl⟩
 obtain ⟨kv, hkv⟩ : ∃ kv, K x.a = kv := ⟨_, rfl⟩
 rw [hmk] at HM
 rw [hmk, hkv]
 have HKE := Lib.hid hkv
 clear hmk hkv
 have HFB := Lib.hid hfit
 have HBD := Lib.hid hb
 clear hfit hb
 go_enter Tryz.func54, Tryz.ntmps54
 go_upto_region 1 with fail
 try rw [hw1]
 clear hw1
 have hxr := I5.range HX1.out rfl
 go_wp2_with (refine wpList_load_mid (by rfl) 24 _ (by rfl) w.heap.size 0 (by rfl) (insF x).toList _ hxr Tryz.underlying24 (by rfl) (by rw [infoF24]; rfl) ?_)
 refine HM.out.mono ?_
 rintro e w2 ⟨v, rfl, hv, hb2⟩
 have HB2 := Lib.hid (HB1.out.trans (hb2.mono HB1.out.size))
 have HX2 : Hid (I5 w2 w.heap.size (insF x)) := Lib.hid (CellsAt.below HX1.out hb2 (by rw [HZ1.out]; omega))
 have HR2 : Hid (I5 w2 (w.heap.size + 1) #[.int .i64 0, .int .i64 0, .int .i64 0, .int .i64 0, .int .u64 0]) := Lib.hid (CellsAt.below HR1.out hb2 (by rw [HZ1.out]; omega))
 have HK2 := Lib.hid (HK1.out.below hb2 (Nat.le_refl _))
 clear hxr hb2 HM HB1 HX1 HR1 HK1
 have hc := fun (j : Nat) (hj : j < 5) => CellsAt.cell HX2.out (j := j) hj
 have c0 : w2.cell? ⟨w.heap.size, 0, none⟩ = some (.int .i64 x.op) := hc 0 (by omega)
 have c1 : w2.cell? ⟨w.heap.size, 1, none⟩ = some (.int .i64 x.a) := hc 1 (by omega)
 have c3 : w2.cell? ⟨w.heap.size, 3, none⟩ = some (.int .i64 x.n) := hc 3 (by omega)
 have c4 : w2.cell? ⟨w.heap.size, 4, none⟩ = some (.int .u64 x.imm) := hc 4 (by omega)
 have hxr2 := I5.range HX2.out rfl
 clear hc
 cases mk with
 | some z =>
  obtain rfl := hv z rfl
  have HSn := Lib.hid (below_stored5 HB2.out HB2.out.size (insF ⟨1, x.a, 0, 0, (v : Int)⟩).toList (c := w.heap.size + 1) (by omega))
  have HMn := Lib.hid (I5.store HR2.out (insF ⟨1, x.a, 0, 0, (v : Int)⟩) rfl)
  have HTn := Lib.hid (CellsAt.there HR2.out (o := 0) (m := 5) (by omega))
  go_wp2_with (refine wpList_store_mid (by rfl) 24 _ _ (by rfl) (w.heap.size + 1) 0 (insF ⟨1, x.a, 0, 0, (v : Int)⟩) (by rfl) (by rfl) HTn.out (by rw [infoF24]; rfl) (by simp [insF, Value.oneCell']) ?_)
  exact bodyPost_ret (v := .agg (insF ⟨1, x.a, 0, 0, (v : Int)⟩)) (ret_ins (p := 4) (by kernel_rfl) rfl (by rfl) HMn.out) rfl ⟨rfl, HSn.out⟩
 | none =>
  clear hv
  have hA := HK2.out.look x.a (by have := HBD.out; unfold B.In64; omega)
  have HKV : Hid (∀ v, kv = some v → v < 18446744073709551616) := Lib.hid (fun v e => HKA.out v (HKE.out.trans e))
  rw [HKE.out] at hA
  clear HKE
  cases kv with
  | none =>
   simp only [Option.getD, Option.isSome] at hA
   have HSn := Lib.hid (below_stored5 HB2.out HB2.out.size (insF x).toList (c := w.heap.size + 1) (by omega))
   have HMn := Lib.hid (I5.store HR2.out (insF x) rfl)
   have HTn := Lib.hid (CellsAt.there HR2.out (o := 0) (m := 5) (by omega))
   go_wp2_with (first | refine wpList_load_mid (by rfl) 24 _ (by rfl) w.heap.size 0 (by rfl) (insF x).toList _ hxr2 Tryz.underlying24 (by rfl) (by rw [infoF24]; rfl) ?_ | refine wpList_store_mid (by rfl) 24 _ _ (by rfl) (w.heap.size + 1) 0 (insF x) (by rfl) (by rfl) HTn.out (by rw [infoF24]; rfl) (by simp [insF, Value.oneCell']) ?_)
   exact bodyPost_ret (v := .agg (insF x)) (ret_ins (p := 4) (by kernel_rfl) rfl (by rfl) HMn.out) rfl ⟨rfl, HSn.out⟩
  | some u =>
   simp only [Option.getD, Option.isSome] at hA
   have hu := HKV.out u rfl
   by_cases h19 : x.op = 19
   ·have e1 : (x.op == 19) = true := by simp [h19]
    have e2 : (x.op == 17) = false := by simp [h19]
    by_cases hne : (u : Int) = x.imm
    ·have e3 : ((u : Int) == x.imm) = true := by simp [hne]
     have e4 : ((u : Int) != x.imm) = false := by simp [hne]
     have HBT : Hid (betV x none (some u) = ⟨18, 0, 0, 0, 0⟩) := Lib.hid (by simp [betV, h19, hne])
     clear h19 hne
     have HSn := Lib.hid (below_stored5 HB2.out HB2.out.size (insF ⟨18, 0, 0, 0, 0⟩).toList (c := w.heap.size + 1) (by omega))
     have HMn := Lib.hid (I5.store HR2.out (insF ⟨18, 0, 0, 0, 0⟩) rfl)
     have HTn := Lib.hid (CellsAt.there HR2.out (o := 0) (m := 5) (by omega))
     go_wp2_with (refine wpList_store_mid (by rfl) 24 _ _ (by rfl) (w.heap.size + 1) 0 (insF ⟨18, 0, 0, 0, 0⟩) (by rfl) (by rfl) HTn.out (by rw [infoF24]; rfl) (by simp [insF, Value.oneCell']) ?_)
     exact bodyPost_ret (v := .agg (insF ⟨18, 0, 0, 0, 0⟩)) (ret_ins (p := 4) (by kernel_rfl) rfl (by rfl) HMn.out) rfl ⟨by rw [HBT.out], HSn.out⟩
    ·have e3 : ((u : Int) == x.imm) = false := by simp [hne]
     have e4 : ((u : Int) != x.imm) = true := by simp [hne]
     have HBT : Hid (betV x none (some u) = ⟨18, 0, 0, x.n, 0⟩) := Lib.hid (by simp [betV, h19, hne])
     clear h19 hne
     have HSn := Lib.hid (below_stored5 HB2.out HB2.out.size (insF ⟨18, 0, 0, x.n, 0⟩).toList (c := w.heap.size + 1) (by omega))
     have HMn := Lib.hid (I5.store HR2.out (insF ⟨18, 0, 0, x.n, 0⟩) rfl)
     have HTn := Lib.hid (CellsAt.there HR2.out (o := 0) (m := 5) (by omega))
     go_wp2_with (refine wpList_store_mid (by rfl) 24 _ _ (by rfl) (w.heap.size + 1) 0 (insF ⟨18, 0, 0, x.n, 0⟩) (by rfl) (by rfl) HTn.out (by rw [infoF24]; rfl) (by simp [insF, Value.oneCell']) ?_)
     exact bodyPost_ret (v := .agg (insF ⟨18, 0, 0, x.n, 0⟩)) (ret_ins (p := 4) (by kernel_rfl) rfl (by rfl) HMn.out) rfl ⟨by rw [HBT.out], HSn.out⟩
   ·have e1 : (x.op == 19) = false := by simp [h19]
    by_cases h17 : x.op = 17
    ·have e2 : (x.op == 17) = true := by simp [h17]
     obtain ⟨k1, k2⟩ := HFB.out h17
     obtain ⟨k, hk⟩ : ∃ k : Nat, x.n = (k : Int) := ⟨x.n.toNat, by omega⟩
     have k3 : 1 ≤ k := by omega
     have k4 : k ≤ 64 := by omega
     obtain ⟨sb, hsb⟩ : ∃ sb, (x.imm == 1) = sb := ⟨_, rfl⟩
     obtain ⟨fb, hfb⟩ : ∃ fb, B.fits u k sb = fb := ⟨_, rfl⟩
     have HBT : Hid (betV x none (some u) = if fb = true then ⟨18, 0, 0, 0, 0⟩ else x) := Lib.hid (by
      have e5 : decide (x.imm = 1) = sb := by rw [← hsb]; rfl
      simp only [betV]
      rw [hk, Int.toNat_natCast, e5, hfb, if_neg (by simp [h19])]
      cases fb <;> simp [h17])
     rw [hk] at c3
     clear h19 h17 k1 k2 hk
     have hF := fits_still u k sb fb w2 k3 k4 hu hfb
     clear hfb
     cases fb with
     | true =>
      have HSn := Lib.hid (below_stored5 HB2.out HB2.out.size (insF ⟨18, 0, 0, 0, 0⟩).toList (c := w.heap.size + 1) (by omega))
      have HMn := Lib.hid (I5.store HR2.out (insF ⟨18, 0, 0, 0, 0⟩) rfl)
      have HTn := Lib.hid (CellsAt.there HR2.out (o := 0) (m := 5) (by omega))
      go_wp2_with (first | (go_at_call 80; refine hF.mono ?_; rintro e w3 ⟨rfl, rfl⟩) | refine wpList_store_mid (by rfl) 24 _ _ (by rfl) (w.heap.size + 1) 0 (insF ⟨18, 0, 0, 0, 0⟩) (by rfl) (by rfl) HTn.out (by rw [infoF24]; rfl) (by simp [insF, Value.oneCell']) ?_)
      exact bodyPost_ret (v := .agg (insF ⟨18, 0, 0, 0, 0⟩)) (ret_ins (p := 4) (by kernel_rfl) rfl (by rfl) HMn.out) rfl ⟨by rw [HBT.out]; rfl, HSn.out⟩
     | false =>
      have HSn := Lib.hid (below_stored5 HB2.out HB2.out.size (insF x).toList (c := w.heap.size + 1) (by omega))
      have HMn := Lib.hid (I5.store HR2.out (insF x) rfl)
      have HTn := Lib.hid (CellsAt.there HR2.out (o := 0) (m := 5) (by omega))
      go_wp2_with (first | (go_at_call 80; refine hF.mono ?_; rintro e w3 ⟨rfl, rfl⟩) | refine wpList_load_mid (by rfl) 24 _ (by rfl) w.heap.size 0 (by rfl) (insF x).toList _ hxr2 Tryz.underlying24 (by rfl) (by rw [infoF24]; rfl) ?_ | refine wpList_store_mid (by rfl) 24 _ _ (by rfl) (w.heap.size + 1) 0 (insF x) (by rfl) (by rfl) HTn.out (by rw [infoF24]; rfl) (by simp [insF, Value.oneCell']) ?_)
      exact bodyPost_ret (v := .agg (insF x)) (ret_ins (p := 4) (by kernel_rfl) rfl (by rfl) HMn.out) rfl ⟨by rw [HBT.out]; rfl, HSn.out⟩
    ·have e2 : (x.op == 17) = false := by simp [h17]
     have HBT : Hid (betV x none (some u) = x) := Lib.hid (by simp [betV, h19, h17])
     clear h19 h17
     have HSn := Lib.hid (below_stored5 HB2.out HB2.out.size (insF x).toList (c := w.heap.size + 1) (by omega))
     have HMn := Lib.hid (I5.store HR2.out (insF x) rfl)
     have HTn := Lib.hid (CellsAt.there HR2.out (o := 0) (m := 5) (by omega))
     go_wp2_with (first | refine wpList_load_mid (by rfl) 24 _ (by rfl) w.heap.size 0 (by rfl) (insF x).toList _ hxr2 Tryz.underlying24 (by rfl) (by rw [infoF24]; rfl) ?_ | refine wpList_store_mid (by rfl) 24 _ _ (by rfl) (w.heap.size + 1) 0 (insF x) (by rfl) (by rfl) HTn.out (by rw [infoF24]; rfl) (by simp [insF, Value.oneCell']) ?_)
     exact bodyPost_ret (v := .agg (insF x)) (ret_ins (p := 4) (by kernel_rfl) rfl (by rfl) HMn.out) rfl ⟨by rw [HBT.out], HSn.out⟩

end Code
end Go.Proofs.YtegjeincncccaaaGreatDoor
