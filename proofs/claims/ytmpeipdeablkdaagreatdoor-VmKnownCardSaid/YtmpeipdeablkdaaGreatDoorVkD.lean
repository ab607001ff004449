/- busbarlaw14: knownOps: each operation with what it takes at its ends; by the laws as contracts. -/
import Derived.Test.YtmpeipdeablkdaaGreatDoorVkC
import Derived.StillTailTactics
import Derived.Deep.RegionHeld3
namespace Go.Proofs.YtmpeipdeablkdaaGreatDoor
open Go.RowKit

namespace Code
open Go.Proofs.YtmpeipdeablkdaaGreatDoor.Code.One

attribute [local go_sem ↓] Go.wp_at_zero Go.wp_at_succ

def EndsLaw : Prop := ∀ (a0 : Option Addr) (len0 cap0 : Nat) (ps0 : List B.Ins) (pa1 : Option Addr) (pn1 pc1 : Nat) (pay1 : List Nat) (ia2 : Option Addr) (im2 ic2 : Nat) (inp2 : List Nat) (w : World), ProgAt w a0 len0 ps0 → (∀ y ∈ ps0, y.Wf) → len0 * 40 ≤ 140737488351232 → (a0 = none → cap0 = 0) →
 ListAt w pa1 pn1 (pay1.map u8V) → B.Bytes pay1 → (pa1 = none → pc1 = 0) → pn1 ≤ 9223372036854775807 → ListAt w ia2 im2 (inp2.map u64V) → B.Words inp2 → (ia2 = none → ic2 = 0) → im2 ≤ 9223372036854775807 → Tabs w →
 Calls Tryz.prog 34 #[.slice a0 len0 cap0, .slice pa1 pn1 pc1, .slice ia2 im2 ic2] w (BoolOut true w)

/-- an instruction's cells -/
def arrV (x : B.Ins) : Array Value := #[.int .i64 x.op, .int .i64 x.a, .int .i64 x.b, .int .i64 x.n, .int .u64 x.imm]
theorem insV {w : World} {b off : Nat} {x : B.Ins} (h : InsAt w b off x) : w.rangeAt b off (arrV x).toList := by
 intro j v hv
 match j, hv with
 | 0, hv => cases hv; exact h.c0
 | 1, hv => cases hv; exact h.c1
 | 2, hv => cases hv; exact h.c2
 | 3, hv => cases hv; exact h.c3
 | 4, hv => cases hv; exact h.c4

theorem still_midV {op : Oper} {a : Act} {w : World} {K : Act → Prop} (ty : TypeId) (x : Operand) (ho : op.op = .load ty x) (b o : Nat) (hx : a.eval x = .pointer (some ⟨b, o, none⟩)) (cs : Array Value) (d : TypeDesc) (hc : w.rangeAt b o cs.toList)
    (hu : Tryz.prog.underlying ty = some d) (hd : d.isRow = true) (hi : (Tryz.prog.info? ty).map (·.size) = some cs.toList.length) (h : K (a.put op.dst (.agg cs))) : op.still Tryz.prog a w K := by
 unfold Oper.still
 have e : (execOp a.eval op).run Tryz.prog w = .ok (.value (.agg cs)) w := by
  unfold execOp
  simp only [ho, hx, Instr.loadAt, Instr.sureAddr, Sem.run_bind, Sem.run_pure, Result.andThen_ok, run_loadVar_mid w b o ty cs.toList d hc hu hd hi]
 rw [e, Oper.stillUpon_value]
 exact h

/-- a small number's rest -/
theorem tmodV {a n : Int} (h0 : 0 ≤ a) (hn : 0 < n) (hm : n ≤ 100) : ∃ r : Nat, a.tmod n = (r : Int) ∧ (r : Int) < n ∧ IntKind.i64.wrap (r : Int) = (r : Int) := by
 have h1 := Int.tmod_nonneg n h0
 have h2 := Int.tmod_lt_of_pos a hn
 exact ⟨(a.tmod n).toNat, by omega, by omega, IntWalk.i64_in _ (by omega)⟩

def vals4 : List Nat := [128, 9223372036854775808, 18446744073709551615, 81985529216486895]
def size5 : List Nat := [0, 1, 8, 63, 64]
theorem vals4_words : B.Words vals4 := by unfold B.Words; decide
theorem size5_at : ∀ (i : Nat) (z : Nat), size5[i]? = some z → z ≤ 64 := by
 intro i z h
 have : z ∈ size5 := List.mem_of_getElem? h
 simp [size5] at this
 omega
def i64N (n : Nat) : Value := .int .i64 (n : Int)

/-- a list's cell -/
theorem list_cell {w : World} {X n i : Nat} {vs : List Value} (h : ListAt w (some ⟨X, 0, none⟩) n vs) {v : Value} (hv : vs[i]? = some v) : w.cell? ⟨X, i, none⟩ = some v := by
 obtain ⟨b, o, e, _, hc⟩ := h.at_ i v hv
 simp only [Option.some.injEq, Addr.mk.injEq] at e
 obtain ⟨rfl, rfl, _⟩ := e
 rw [Nat.zero_add] at hc
 exact hc

/-- the ten instructions of a round -/
def ten (o z v1 v3 r2 r9 : Nat) : List B.Ins := [⟨(o : Int), 1, 0, (z : Int), (v1 : Int)⟩, ⟨(o : Int), 1, 2, (z : Int), 0⟩, ⟨(o : Int), 1, 2, 0, (v1 : Int)⟩, ⟨(o : Int), 1, 2, (z : Int), (r2 : Int)⟩, ⟨(o : Int), 1, 0, 0, (v1 : Int)⟩, ⟨(o : Int), 1, 2, 0, 0⟩, ⟨(o : Int), 1, 0, (z : Int), 0⟩, ⟨(o : Int), 2, (r9 : Int), (8 - (r9 : Int)), (v3 : Int)⟩, ⟨(o : Int), 2, (r9 : Int), (8 - (r9 : Int)), 0⟩, ⟨(o : Int), 0, 0, 1, 0⟩]
theorem ten_wf {o z v1 v3 r2 r9 : Nat} (ho : o ≤ 20) (hz : z ≤ 64) (h1 : v1 < 18446744073709551616) (h3 : v3 < 18446744073709551616) (h2 : r2 < 2) (h9 : r9 < 9) : ∀ y ∈ ten o z v1 v3 r2 r9, y.Wf := by
 intro y hy
 simp only [ten, List.mem_cons, List.not_mem_nil, or_false] at hy
 rcases hy with rfl | rfl | rfl | rfl | rfl | rfl | rfl | rfl | rfl | rfl <;> (refine ⟨?_, ?_, ?_, ?_, ?_⟩ <;> simp only [B.In64, B.InU64] <;> omega)
def five (x : B.Ins) : List B.Ins := [⟨15, 1, 0, 0, 0⟩, ⟨15, 2, 1, 0, 0⟩, x, ⟨16, 1, 0, 0, 0⟩, ⟨16, 2, 1, 0, 0⟩]
theorem five_wf {x : B.Ins} (h : x.Wf) : ∀ y ∈ five x, y.Wf := by
 intro y hy
 simp only [five, List.mem_cons, List.not_mem_nil, or_false] at hy
 rcases hy with rfl | rfl | rfl | rfl | rfl
 ·exact ⟨by decide, by decide, by decide, by decide, by decide⟩
 ·exact ⟨by decide, by decide, by decide, by decide, by decide⟩
 ·exact h
 ·exact ⟨by decide, by decide, by decide, by decide, by decide⟩
 ·exact ⟨by decide, by decide, by decide, by decide, by decide⟩
theorem block_ltV {w : World} {b o : Nat} {x : B.Ins} (h : InsAt w b o x) : b < w.heap.size := World.block_lt_of_cell? w _ h.c0
theorem words_three {a b : Nat} (ha : a < 18446744073709551616) (hb : b < 18446744073709551616) : B.Words [a, b, 7] := by
 intro x hx
 simp at hx
 omega

set_option maxRecDepth 100000 in
set_option maxHeartbeats 12800000 in
theorem knownOps14_any (hL : RunsLaw) (hE : EndsLaw) (w : World) (hR : Ready w) : Calls Tryz.prog 11 #[] w (BoolOut true w) := by
 have HR := Lib.hid hR
 have HL := Lib.hid hL
 have HE := Lib.hid hE
 clear hR hL hE
 obtain ⟨w0, hw0⟩ : ∃ w0, ((w.alloc (.cells #[.int .u64 128, .int .u64 9223372036854775808, .int .u64 18446744073709551615, .int .u64 81985529216486895] 22)).alloc (.cells #[.int .i64 0, .int .i64 1, .int .i64 8, .int .i64 63, .int .i64 64] 3)).alloc (.cells #[.int .u8 17, .int .u8 34, .int .u8 51, .int .u8 68, .int .u8 85, .int .u8 102, .int .u8 119, .int .u8 136] 5) = w0 := ⟨_, rfl⟩
 have k : ∀ (v : World) (o : Obj), Below v.heap.size v (v.alloc o) := fun v o => alloc_below v o
 have HB0 : Hid (Below w.heap.size w w0) := Lib.hid (by rw [← hw0]; exact (k _ _).trans (((k _ _).trans ((k _ _).mono (by simp))).mono (by simp)))
 have HV0 : Hid (ListAt w0 (some ⟨w.heap.size, 0, none⟩) 4 (vals4.map u64V)) := Lib.hid (by rw [← hw0]; exact ((listAt_new _ _ 4 _ _ _ rfl rfl rfl).below (k _ _) (Nat.le_refl _)).below (k _ _) (Nat.le_refl _))
 have HZ0 : Hid (ListAt w0 (some ⟨w.heap.size + 1, 0, none⟩) 5 (size5.map i64N)) := Lib.hid (by rw [← hw0]; exact (listAt_new _ _ 5 _ _ _ rfl rfl (by simp)).below (k _ _) (Nat.le_refl _))
 have HP0 : Hid (ListAt w0 (some ⟨w.heap.size + 1 + 1, 0, none⟩) 8 (pay8.map u8V)) := Lib.hid (by rw [← hw0]; exact listAt_new _ _ 8 _ _ _ rfl rfl (by simp))
 have hs0 : w.heap.size < w0.heap.size := by rw [← hw0]; simp; omega
 clear k
 go_enter Tryz.func11, Tryz.ntmps11
 go_wp2_with fail
 try rw [hw0]
 clear hw0
 obtain ⟨X, hX⟩ : ∃ X, w.heap.size = X := ⟨_, rfl⟩
 rw [hX] at HV0 HZ0 HP0
 rw [hX]
 go_loopw [4] (fun i wr => ∃ o : Nat, o ≤ 21 ∧ i = .int .i64 o ∧ Below w0.heap.size w0 wr) (fun i _ => 21 - (intOf i).toNat)
 case atStart => exact ⟨0, by omega, rfl, Below.refl _ _⟩
 case round =>
  obtain ⟨o, ho21, rfl, hbo⟩ := hrel
  have HBo := Lib.hid hbo
  clear hbo
  by_cases ho : o ≤ 20
  ·have o0 : (0 : Int) ≤ (o : Int) := by omega
   have o1 : (o : Int) ≤ 20 := by omega
   go_wp2_with fail
   go_loopw [5] (fun i wr => ∃ i' : Nat, i' ≤ 4 ∧ i = .int .i64 i' ∧ Below w0.heap.size w0 wr) (fun i _ => 4 - (intOf i).toNat)
   case atStart => exact ⟨0, by omega, rfl, HBo.out⟩
   case round =>
    obtain ⟨i, hi4, rfl, hbi⟩ := hrel
    have HBi := Lib.hid hbi
    clear hbi
    by_cases hi : i < 4
    ·have i0 : (0 : Int) ≤ (i : Int) := by omega
     have i1 : (i : Int) < 4 := by omega
     have ii : (i : Int).toNat = i := by omega
     have e2 : IntKind.i64.wrap ((i : Int) + 2) = (i : Int) + 2 := IntWalk.i64_in _ (by omega)
     obtain ⟨q, hq, hq4, hqw⟩ := tmodV (a := (i : Int) + 2) (n := 4) (by omega) (by omega) (by omega)
     have q0 : (0 : Int) ≤ (q : Int) := by omega
     obtain ⟨v3, hv3⟩ : ∃ v, vals4[i]? = some v := ⟨_, List.getElem?_eq_getElem (by simpa [vals4] using hi)⟩
     obtain ⟨v4, hv4⟩ : ∃ v, vals4[q]? = some v := ⟨_, List.getElem?_eq_getElem (by simp [vals4]; omega)⟩
     have HK3 := Lib.hid (vals4_words _ (List.mem_of_getElem? hv3))
     have HK4 := Lib.hid (vals4_words _ (List.mem_of_getElem? hv4))
     have HV3 := Lib.hid hv3
     have c3 : wr.cell? ⟨X, i, none⟩ = some (.int .u64 (v3 : Int)) := list_cell (HV0.out.below HBi.out (Nat.le_refl _)) (by rw [List.getElem?_map, hv3]; rfl)
     have c4 : wr.cell? ⟨X, q, none⟩ = some (.int .u64 (v4 : Int)) := list_cell (HV0.out.below HBi.out (Nat.le_refl _)) (by rw [List.getElem?_map, hv4]; rfl)
     clear hv3 hv4
     go_wp2_with fail
     go_still_tail 12, (by kernel_rfl)
     go_wp2_with fail
     obtain ⟨wi, hwi⟩ : ∃ wi, (wr.alloc (.cells #[.int .u64 (v3 : Int), .int .u64 (v4 : Int), .int .u64 7] 22)).drew = wi := ⟨_, rfl⟩
     try rw [hwi]
     have hba : Below wr.heap.size wr wi := by rw [← hwi]; exact ((Below.refl _ _).alloc (Nat.le_refl _) _).drew
     have HBI := Lib.hid (HBi.out.trans (hba.mono HBi.out.size))
     have HU : Hid (ListAt wi (some ⟨wr.heap.size, 0, none⟩) 3 (([v3, v4, 7] : List Nat).map u64V)) := Lib.hid (by rw [← hwi]; exact (listAt_new _ _ 3 _ _ _ rfl rfl rfl).below (Below.refl _ _).drew (Nat.le_refl _))
     clear hwi hba c3 c4 e2 hq hq4 hqw q0 ii
     obtain ⟨Y, hY⟩ : ∃ Y, wr.heap.size = Y := ⟨_, rfl⟩
     try rw [hY] at HU
     try rw [hY]
     try simp only [World.drew_heap, hY]
     clear hY
     go_loopw [7] (fun i wr => ∃ k : Nat, k ≤ 5 ∧ i = .int .i64 k ∧ Below wi.heap.size wi wr) (fun i _ => 5 - (intOf i).toNat)
     case atStart => exact ⟨0, by omega, rfl, Below.refl _ _⟩
     case round =>
      obtain ⟨k, hk5, rfl, hbk⟩ := hrel
      have HBk := Lib.hid hbk
      clear hbk
      by_cases hk : k < 5
      ·have k0 : (0 : Int) ≤ (k : Int) := by omega
       have k1 : (k : Int) < 5 := by omega
       have kk : (k : Int).toNat = k := by omega
       have ii : (i : Int).toNat = i := by omega
       obtain ⟨r4, hr4, hl4, hw4⟩ := tmodV (a := (k : Int)) (n := 4) (by omega) (by omega) (by omega)
       obtain ⟨r2, hr2, hl2, hw2⟩ := tmodV (a := (k : Int)) (n := 2) (by omega) (by omega) (by omega)
       obtain ⟨r9, hr9, hl9, hw9⟩ := tmodV (a := (k : Int)) (n := 9) (by omega) (by omega) (by omega)
       have q4 : (0 : Int) ≤ (r4 : Int) := by omega
       have u2 : IntKind.u64.wrap (r2 : Int) = (r2 : Int) := by rw [IntKind.wrap_u64]; omega
       have u9 : IntKind.i64.wrap (8 - (r9 : Int)) = 8 - (r9 : Int) := IntWalk.i64_in _ (by omega)
       obtain ⟨v1, hv1⟩ : ∃ v, vals4[r4]? = some v := ⟨_, List.getElem?_eq_getElem (by simp [vals4]; omega)⟩
       obtain ⟨z, hz⟩ : ∃ v, size5[k]? = some v := ⟨_, List.getElem?_eq_getElem (by simpa [size5] using hk)⟩
       have HWF : Hid (∀ y ∈ ten o z v1 v3 r2 r9, y.Wf) := Lib.hid (ten_wf ho (size5_at _ _ hz) (vals4_words _ (List.mem_of_getElem? hv1)) HK3.out (by omega) (by omega))
       have HF : Hid (∀ u : World, Below wi.heap.size wi u → u.cell? ⟨X, r4, none⟩ = some (.int .u64 (v1 : Int)) ∧ u.cell? ⟨X, i, none⟩ = some (.int .u64 (v3 : Int)) ∧ u.cell? ⟨X + 1, k, none⟩ = some (.int .i64 (z : Int))) := Lib.hid (fun u hb => by
        have hb' := HBI.out.trans (hb.mono HBI.out.size)
        exact ⟨list_cell (HV0.out.below hb' (Nat.le_refl _)) (by rw [List.getElem?_map, hv1]; rfl), list_cell (HV0.out.below hb' (Nat.le_refl _)) (by rw [List.getElem?_map, HV3.out]; rfl), list_cell (HZ0.out.below hb' (Nat.le_refl _)) (by rw [List.getElem?_map, hz]; rfl)⟩)
       clear hv1 hz
       obtain ⟨d1, d3, dz⟩ := HF.out _ HBk.out
       go_wp2_with fail
       go_region_held3 (fun w' => w'.cell? ⟨X, r4, none⟩ = some (.int .u64 (v1 : Int)) ∧ w'.cell? ⟨X + 1, k, none⟩ = some (.int .i64 (z : Int))) (first | exact ⟨d1, dz⟩ | go_keep) (fail)
       go_upto_region 15 with fail
       obtain ⟨wA, hwA⟩ : ∃ v, (wr.alloc (.cells #[.int .i64 (o : Int), .int .i64 1, .int .i64 0, .int .i64 (z : Int), .int .u64 (v1 : Int)] 24)).drew = v := ⟨_, rfl⟩
       try rw [hwA]
       have hbA : Below wr.heap.size wr wA := by rw [← hwA]; exact ((Below.refl _ _).alloc (Nat.le_refl _) _).drew
       have hiA : InsAt wA wr.heap.size 0 ⟨(o : Int), 1, 0, (z : Int), (v1 : Int)⟩ := by rw [← hwA]; exact (insAt_new ⟨(o : Int), 1, 0, (z : Int), (v1 : Int)⟩ wr).below (Below.refl _ _).drew (Nat.le_refl _)
       have HBA := Lib.hid (HBk.out.trans (hbA.mono HBk.out.size))
       clear hwA d1 d3 dz
       obtain ⟨d1, d3, dz⟩ := HF.out _ HBA.out
       go_upto_region 16 with fail
       obtain ⟨wB, hwB⟩ : ∃ v, wA.alloc (.cells #[.int .i64 (o : Int), .int .i64 1, .int .i64 2, .int .i64 (z : Int), .int .u64 0] 24) = v := ⟨_, rfl⟩
       try rw [hwB]
       have hbB : Below wA.heap.size wA wB := by rw [← hwB]; exact (Below.refl _ _).alloc (Nat.le_refl _) _
       have hiB : InsAt wB wA.heap.size 0 ⟨(o : Int), 1, 2, (z : Int), 0⟩ := by rw [← hwB]; exact insAt_new ⟨(o : Int), 1, 2, (z : Int), 0⟩ wA
       have HBB := Lib.hid (HBA.out.trans (hbB.mono HBA.out.size))
       clear hwB d1 d3 dz
       obtain ⟨d1, d3, dz⟩ := HF.out _ HBB.out
       go_upto_region 17 with fail
       obtain ⟨wC, hwC⟩ : ∃ v, wB.alloc (.cells #[.int .i64 (o : Int), .int .i64 1, .int .i64 2, .int .i64 0, .int .u64 (v1 : Int)] 24) = v := ⟨_, rfl⟩
       try rw [hwC]
       have hbC : Below wB.heap.size wB wC := by rw [← hwC]; exact (Below.refl _ _).alloc (Nat.le_refl _) _
       have hiC : InsAt wC wB.heap.size 0 ⟨(o : Int), 1, 2, 0, (v1 : Int)⟩ := by rw [← hwC]; exact insAt_new ⟨(o : Int), 1, 2, 0, (v1 : Int)⟩ wB
       have HBC := Lib.hid (HBB.out.trans (hbC.mono HBB.out.size))
       clear hwC d1 d3 dz
       obtain ⟨d1, d3, dz⟩ := HF.out _ HBC.out
       go_upto_region 18 with fail
       obtain ⟨wD, hwD⟩ : ∃ v, wC.alloc (.cells #[.int .i64 (o : Int), .int .i64 1, .int .i64 2, .int .i64 (z : Int), .int .u64 (r2 : Int)] 24) = v := ⟨_, rfl⟩
       try rw [hwD]
       have hbD : Below wC.heap.size wC wD := by rw [← hwD]; exact (Below.refl _ _).alloc (Nat.le_refl _) _
       have hiD : InsAt wD wC.heap.size 0 ⟨(o : Int), 1, 2, (z : Int), (r2 : Int)⟩ := by rw [← hwD]; exact insAt_new ⟨(o : Int), 1, 2, (z : Int), (r2 : Int)⟩ wC
       have HBD := Lib.hid (HBC.out.trans (hbD.mono HBC.out.size))
       clear hwD d1 d3 dz
       obtain ⟨d1, d3, dz⟩ := HF.out _ HBD.out
       have HIA := Lib.hid (insV (hiA.below (hbB.trans ((hbC.trans (hbD.mono hbC.size)).mono hbB.size)) (block_ltV hiA)))
       have HIB := Lib.hid (insV (hiB.below (hbC.trans (hbD.mono hbC.size)) (block_ltV hiB)))
       have HIC := Lib.hid (insV (hiC.below hbD (block_ltV hiC)))
       have HID := Lib.hid (insV hiD)
       clear hiA hiB hiC hiD hbA hbB hbC hbD
       go_wp2_with fail
       refine wp_region_still_tail 41 (by kernel_rfl) (by kernel_rfl) ?_
       simp only [List.take_succ_cons, List.take_zero, List.drop_succ_cons, List.drop_zero]
       refine wpStill_step (fun K hK => ?_)
       rw [if_pos (by rfl)]
       refine still_midV 24 _ rfl wr.heap.size 0 rfl _ _ HIA.out Tryz.underlying24 rfl (by kernel_rfl) ?_
       refine hK _ ?_
       clear hK K
       refine wpStill_step (fun K hK => ?_)
       rw [if_pos (by rfl)]
       refine still_midV 24 _ rfl wA.heap.size 0 rfl _ _ HIB.out Tryz.underlying24 rfl (by kernel_rfl) ?_
       refine hK _ ?_
       clear hK K
       refine wpStill_step (fun K hK => ?_)
       rw [if_pos (by rfl)]
       refine still_midV 24 _ rfl wB.heap.size 0 rfl _ _ HIC.out Tryz.underlying24 rfl (by kernel_rfl) ?_
       refine hK _ ?_
       clear hK K
       refine wpStill_step (fun K hK => ?_)
       rw [if_pos (by rfl)]
       refine still_midV 24 _ rfl wC.heap.size 0 rfl _ _ HID.out Tryz.underlying24 rfl (by kernel_rfl) ?_
       refine hK _ ?_
       clear hK K
       repeat still_step
       refine wpStill_nil ?_
       change wpList _ _ _ _ _ _
       unfold arrV
       go_wp2_with fail
       obtain ⟨wE, hwE⟩ : ∃ wE, (wD.alloc (.cells #[.int .i64 (o : Int), .int .i64 1, .int .i64 0, .int .i64 (z : Int), .int .u64 (v1 : Int), .int .i64 (o : Int), .int .i64 1, .int .i64 2, .int .i64 (z : Int), .int .u64 0, .int .i64 (o : Int), .int .i64 1, .int .i64 2, .int .i64 0, .int .u64 (v1 : Int), .int .i64 (o : Int), .int .i64 1, .int .i64 2, .int .i64 (z : Int), .int .u64 (r2 : Int), .int .i64 (o : Int), .int .i64 1, .int .i64 0, .int .i64 0, .int .u64 (v1 : Int), .int .i64 (o : Int), .int .i64 1, .int .i64 2, .int .i64 0, .int .u64 0, .int .i64 (o : Int), .int .i64 1, .int .i64 0, .int .i64 (z : Int), .int .u64 0, .int .i64 (o : Int), .int .i64 2, .int .i64 (r9 : Int), .int .i64 (8 - (r9 : Int)), .int .u64 (v3 : Int), .int .i64 (o : Int), .int .i64 2, .int .i64 (r9 : Int), .int .i64 (8 - (r9 : Int)), .int .u64 0, .int .i64 (o : Int), .int .i64 0, .int .i64 0, .int .i64 1, .int .u64 0] 24)).drew = wE := ⟨_, rfl⟩
       try rw [hwE]
       have hbE : Below wD.heap.size wD wE := by rw [← hwE]; exact ((Below.refl _ _).alloc (Nat.le_refl _) _).drew
       have HT : Hid (ProgAt wE (some ⟨wD.heap.size, 0, none⟩) 10 (ten o z v1 v3 r2 r9)) := Lib.hid (by rw [← hwE]; exact (progAt_newV (ten o z v1 v3 r2 r9) _ 10 _ _ rfl rfl rfl).below (Below.refl _ _).drew (Nat.le_refl _))
       have HBE := Lib.hid (HBD.out.trans (hbE.mono HBD.out.size))
       clear hwE hbE HIA HIB HIC HID
       clear d1 d3 dz hr4 hl4 q4 hr2 hr9 u2 u9 kk ii hw4 hw2 hw9
       go_loopw [13] (fun i wr => ∃ j : Nat, j ≤ 10 ∧ i = .int .i64 j ∧ Below wE.heap.size wE wr) (fun i _ => 10 - (intOf i).toNat)
       case atStart => exact ⟨0, by omega, rfl, Below.refl _ _⟩
       case round =>
        obtain ⟨j, hj10, rfl, hbj⟩ := hrel
        have HBj := Lib.hid hbj
        clear hbj
        by_cases hj : j < 10
        ·have j0 : (0 : Int) ≤ (j : Int) := by omega
         have j1 : (j : Int) < 10 := by omega
         obtain ⟨x, hx⟩ : ∃ x, (ten o z v1 v3 r2 r9)[j]? = some x := ⟨_, List.getElem?_eq_getElem (by simpa [ten] using hj)⟩
         have HXW := Lib.hid (five_wf (HWF.out x (List.mem_of_getElem? hx)))
         obtain ⟨b', o', he, hbl, hat⟩ := (HT.out.below HBj.out (Nat.le_refl _)).at_ j x hx
         simp only [Option.some.injEq, Addr.mk.injEq] at he
         obtain ⟨rfl, rfl, _⟩ := he
         rw [Nat.zero_add] at hat
         obtain ⟨x0, x1, x2, x3, x4⟩ := hat
         clear hx hbl
         go_upto_region 23 with fail
         obtain ⟨wF, hwF⟩ : ∃ wF, wr.alloc (.cells #[.int .i64 15, .int .i64 1, .int .i64 0, .int .i64 0, .int .u64 0, .int .i64 15, .int .i64 2, .int .i64 1, .int .i64 0, .int .u64 0, .int .i64 x.op, .int .i64 x.a, .int .i64 x.b, .int .i64 x.n, .int .u64 x.imm, .int .i64 16, .int .i64 1, .int .i64 0, .int .i64 0, .int .u64 0, .int .i64 16, .int .i64 2, .int .i64 1, .int .i64 0, .int .u64 0] 24) = wF := ⟨_, rfl⟩
         try rw [hwF]
         have hbF : Below wr.heap.size wr wF := by rw [← hwF]; exact alloc_below _ _
         have HPF : Hid (ProgAt wF (some ⟨wr.heap.size, 0, none⟩) 5 (five x)) := Lib.hid (by rw [← hwF]; exact progAt_newV (five x) _ 5 _ _ rfl rfl rfl)
         have HBF := Lib.hid (HBj.out.trans (hbF.mono HBj.out.size))
         have HG : Hid (∀ u : World, Below wF.heap.size wF u → Ready u ∧ ProgAt u (some ⟨wr.heap.size, 0, none⟩) 5 (five x) ∧ ListAt u (some ⟨X + 1 + 1, 0, none⟩) 8 (pay8.map u8V) ∧ ListAt u (some ⟨Y, 0, none⟩) 3 (([v3, v4, 7] : List Nat).map u64V)) := Lib.hid (fun u hb => by
          have b1 := HBF.out.trans (hb.mono HBF.out.size)
          have b2 := HBE.out.trans (b1.mono HBE.out.size)
          have b3 := HBI.out.trans (b2.mono HBI.out.size)
          exact ⟨HR.out.below (HB0.out.trans (b3.mono (by omega))) (Nat.le_refl _), HPF.out.below hb (Nat.le_refl _), HP0.out.below b3 (Nat.le_refl _), HU.out.below b2 (Nat.le_refl _)⟩)
         clear hwF hbF x0 x1 x2 x3 x4
         go_wp2_with fail
         refine (runs_v HL.out (HG.out _ (Below.refl _ _)).2.1 HXW.out (HG.out _ (Below.refl _ _)).2.2.1 pay8_bytes (HG.out _ (Below.refl _ _)).2.2.2 (words_three HK3.out HK4.out) (by omega) ⟨fun h => (by cases h), fun h => (by cases h), fun h => (by cases h)⟩ (HG.out _ (Below.refl _ _)).1).mono ?_
         rintro e w2 ⟨rfl, hb2⟩
         have HB2 := Lib.hid hb2
         clear hb2
         go_wp2_with fail
         refine (runs_v HL.out (HG.out _ HB2.out).2.1 HXW.out (pay := pay8.take 3) (by rw [List.map_take]; exact listAt_takeV (HG.out _ HB2.out).2.2.1 (by omega)) (bytes_takeV pay8_bytes _) (HG.out _ HB2.out).2.2.2 (words_three HK3.out HK4.out) (by omega) ⟨fun h => (by cases h), fun h => (by cases h), fun h => (by cases h)⟩ (HG.out _ HB2.out).1).mono ?_
         rintro e w3 ⟨rfl, hb3⟩
         have HB3 := Lib.hid (HB2.out.trans (hb3.mono HB2.out.size))
         clear hb3 HB2
         go_wp2_with fail
         refine (HE.out _ 5 5 (five x) _ 8 8 pay8 _ 3 3 [v3, v4, 7] w3 (HG.out _ HB3.out).2.1 HXW.out (by omega) (fun h => by cases h) (HG.out _ HB3.out).2.2.1 pay8_bytes (fun h => by cases h) (by omega) (HG.out _ HB3.out).2.2.2 (words_three HK3.out HK4.out) (fun h => by cases h) (by omega) (HG.out _ HB3.out).1.tabs).mono ?_
         rintro e w4 ⟨rfl, hb4⟩
         have HB4 := Lib.hid (HBF.out.trans ((HB3.out.trans (hb4.mono HB3.out.size)).mono HBF.out.size))
         clear hb4 HB3 HG
         go_wp2_with fail
         go_roundw
         case rel => exact ⟨j + 1, by omega, by go_num, HB4.out⟩
         case measure => simp [intOf]; omega
        ·obtain rfl : j = 10 := by omega
         have HBz := Lib.hid (HBE.out.trans (HBj.out.mono HBE.out.size))
         go_wp2_with fail
         go_roundw
         case rel => exact ⟨k + 1, by omega, by go_num, HBz.out⟩
         case measure => simp [intOf]; omega
      ·obtain rfl : k = 5 := by omega
       have HBz := Lib.hid (HBI.out.trans (HBk.out.mono HBI.out.size))
       go_wp2_with fail
       go_roundw
       case rel => exact ⟨i + 1, by omega, by go_num, HBz.out⟩
       case measure => simp [intOf]; omega
    ·obtain rfl : i = 4 := by omega
     go_wp2_with fail
     go_roundw
     case rel => exact ⟨o + 1, by omega, by go_num, HBi.out⟩
     case measure => simp [intOf]; omega
  ·obtain rfl : o = 21 := by omega
   go_wp2_with fail
   go_ret
   exact ⟨rfl, HB0.out.trans (HBo.out.mono (by omega))⟩

end Code
end Go.Proofs.YtmpeipdeablkdaaGreatDoor
