/- busbarlaw17: does a program come to one in which an operation doesn't stand? And fold.Run's error. -/
import Derived.Test.YtegjeincncccaaaGreatDoorFlG
import Derived.Test.YtegjeincncccaaaGreatDoorFlH
namespace Go.Proofs.YtegjeincncccaaaGreatDoor
open Go.RowKit

namespace Code

attribute [local go_sem ↓] Go.wp_at_zero Go.wp_at_succ

def wfF (x : B.Ins) : Bool := decide (B.In64 x.op) && decide (B.In64 x.a) && decide (B.In64 x.b) && decide (B.In64 x.n) && decide (B.InU64 x.imm)
theorem wf_F {ps : List B.Ins} (h : ps.all wfF = true) : ∀ y ∈ ps, y.Wf := by
 intro y hy
 have := List.all_eq_true.1 h y hy
 simp only [wfF, Bool.and_eq_true, decide_eq_true_eq] at this
 exact ⟨this.1.1.1.1, this.1.1.1.2, this.1.1.2, this.1.2, this.2⟩

/-- fold.Run answers an error -/
def FoldNo (w : World) (e : Ending) (w' : World) : Prop := ∃ T v, e = .returned (.tuple #[.slice none 0 0, .iface T v]) ∧ Below w.heap.size w w'

theorem fold_no (a : Option Addr) (len cap : Nat) (ps : List B.Ins) (size slots : Int) (w : World) (hp : ProgAt w a len ps) (hwf : ∀ y ∈ ps, y.Wf) (ht : Tabs w) (hr : len ≤ 9223372036854775807) (hm : ¬ B.MayRun ps size slots) :
    Calls Tryz.prog 13 #[.slice a len cap, .int .i64 size, .int .i64 slots] w (FoldNo w) := by
 have C := Lib.hid (fun u (hb : Below w.heap.size w u) => program_no a len cap ps size slots u (hp.below hb (Nat.le_refl _)) hwf (ht.below hb (Nat.le_refl _)) hr hm)
 clear hp hwf ht hm
 go_enter Tryz.func13, Tryz.ntmps13
 go_wp2_with fail
 refine (C.out _ (Below.refl _ _)).mono ?_
 rintro e w1 ⟨⟨T, v, rfl⟩, hb⟩
 have HB := Lib.hid hb
 clear hb
 go_wp2_with fail
 go_ret2
 exact ⟨T, v, rfl, HB.out⟩

/-- what is asked of a program here, all of it closed -/
structure No17 (ps : List B.Ins) (op : Int) : Prop where
 wf : ps.all wfF = true
 may : B.program ps 1 1 = (0, none)
 wf' : (B.fold ps).all wfF = true
 may' : B.program (B.fold ps) 1 1 = (0, none)
 len : (B.fold ps).length = ps.length
 not : ∀ y ∈ B.fold ps, y.op ≠ op
 same : ∀ v, v < 12 → Same (B.run ps [v] 0 (B.start [v * 23] 1)) (B.run (B.fold ps) [v] 0 (B.start [v * 23] 1))

set_option maxRecDepth 100000 in
set_option maxHeartbeats 6400000 in
theorem no17_any (a : Option Addr) (len cap : Nat) (ps : List B.Ins) (op : Int) (w : World) (hp : ProgAt w a len ps) (ht : Tabs w) (h0 : 0 < len) (hn : No17 ps op) :
    Calls Tryz.prog 12 #[.slice a len cap, .int .i64 op] w (BoolOut true w) := by
 have HP := Lib.hid hp
 have HT := Lib.hid ht
 have HN := Lib.hid hn
 have hl : len ≤ 16384 := by have := ((B.program_ok _ _ _).1 hn.may).len; have := hp.len; omega
 have HH0 := Lib.hid h0
 have hlq : len = (B.fold ps).length := by rw [hn.len, hp.len]
 have HLQ := Lib.hid hlq
 clear hp ht hn h0 hlq
 go_enter Tryz.func12, Tryz.ntmps12
 go_wp2_with fail
 refine (fold_yes a len cap ps 1 1 _ HP.out (wf_F HN.out.wf) HT.out ((B.program_ok _ _ _).1 HN.out.may) HH0.out).mono ?_
 rintro e w1 ⟨g, c, rfl, ho, hb⟩
 have HB1 := Lib.hid hb
 have HO1 := Lib.hid ho.progAt
 clear hb ho
 go_wp2_with fail
 refine (program_yes (some ⟨g, 0, none⟩) len c (B.fold ps) 1 1 _ HO1.out (wf_F HN.out.wf') (HT.out.below HB1.out (Nat.le_refl _)) (by omega) ((B.program_ok _ _ _).1 HN.out.may')).mono ?_
 rintro e w2 ⟨rfl, hb⟩
 have HO2 := Lib.hid (HO1.out.below hb (Nat.le_refl _))
 have HB2 := Lib.hid (HB1.out.trans (hb.mono HB1.out.size))
 clear hb HO1 HB1
 go_wp2_with fail
 go_loopw [7] (fun i wr => ∃ k : Nat, i = .int .i64 (k : Int) ∧ wr = w2 ∧ k ≤ len) (fun i _ => len - (intOf i).toNat)
 case atStart => exact ⟨0, rfl, rfl, Nat.zero_le _⟩
 case round =>
  obtain ⟨k, rfl, rfl, hk⟩ := hrel
  by_cases hlt : k < len
  ·have e0 : ((k : Int) < (len : Int)) = True := by simp; omega
   have k0 : (0 : Int) ≤ (k : Int) := by omega
   have k1 : (k : Int) < (len : Int) := by omega
   obtain ⟨y, hy⟩ : ∃ y, (B.fold ps)[k]? = some y := ⟨_, List.getElem?_eq_getElem (by have := HLQ.out; omega)⟩
   obtain ⟨g', o', eg, hg', hat⟩ := HO2.out.at_ k y hy
   cases eg
   have hc := hat.c0
   rw [Nat.zero_add] at hc
   have b1 : (y.op == op) = false := by
    have := HN.out.not y (List.mem_of_getElem? hy)
    simpa using this
   clear hy hat
   have k3 : IntKind.i64.wrap ((k : Int) + 1) = (k : Int) + 1 := IntWalk.i64_in _ (by omega)
   go_wp2_with fail
   go_roundw
   case rel => exact ⟨k + 1, by go_num, trivial, hlt⟩
   case measure => simp [intOf]; omega
  ·have e0 : ((k : Int) < (len : Int)) = False := by simp; omega
   have HO := HO2
   have HB := HB2
   clear HO2 HB2 hlt
   go_wp2_with fail
   go_loopw [8] (fun i wr => ∃ v : Nat, i = .int .u64 (v : Int) ∧ v ≤ 12 ∧ Hid (Below w.heap.size w wr ∧ ProgAt wr (some ⟨g, 0, none⟩) len (B.fold ps))) (fun i _ => 12 - (intOf i).toNat)
   case atStart => exact ⟨0, rfl, by omega, HB.out, HO.out⟩
   case round =>
    obtain ⟨v, rfl, hv, HI⟩ := hrel
    clear HB HO
    by_cases h12 : v < 12
    ·have e1 : ((v : Int) < 12) = True := by simp; omega
     have k3 : IntKind.u64.wrap ((v : Int) + 1) = (v : Int) + 1 := by rw [IntKind.wrap_u64]; omega
     have k4 : IntKind.u64.wrap ((v : Int) * 23) = (v : Int) * 23 := by rw [IntKind.wrap_u64]; omega
     have k5 : IntKind.u8.wrap ((v : Int) * 23) = (v : Int) * 23 := by rw [IntKind.wrap_u8]; omega
     have hb1 : Below wr.heap.size wr (wr.alloc (.cells #[.int .u8 ((v : Int) * 23)] 5)) := (Below.refl _ _).alloc (Nat.le_refl _) _
     have hb2 : Below (wr.heap.size + 1) (wr.alloc (.cells #[.int .u8 ((v : Int) * 23)] 5)) ((wr.alloc (.cells #[.int .u8 ((v : Int) * 23)] 5)).alloc (.cells #[.int .u64 (v : Int)] 22)) := (Below.refl _ _).alloc (by simp) _
     have l1 : ListAt (wr.alloc (.cells #[.int .u8 ((v : Int) * 23)] 5)) (some ⟨wr.heap.size, 0, none⟩) 1 (([v * 23] : List Nat).map u8V) := listAt_new _ _ 1 _ _ wr (by simp [u8V]) rfl rfl
     have l2 : ListAt ((wr.alloc (.cells #[.int .u8 ((v : Int) * 23)] 5)).alloc (.cells #[.int .u64 (v : Int)] 22)) (some ⟨wr.heap.size + 1, 0, none⟩) 1 (([v] : List Nat).map u64V) := listAt_new _ _ 1 _ _ _ rfl rfl (by simp)
     have L1 := Lib.hid (l1.below hb2 (by simp))
     have L2 := Lib.hid l2
     have HBA := Lib.hid (hb1.trans (hb2.mono (by omega)))
     clear hb1 hb2 l1 l2
     go_wp2_with fail
     have hs := HI.out.1.size
     refine (alike17_any (HN.out.same v h12) a len cap ps (some ⟨g, 0, none⟩) len c (B.fold ps) _ _ 1 1 1 1 [v * 23] [v] _ (HP.out.below (HI.out.1.trans (HBA.out.mono hs)) (Nat.le_refl _)) (wf_F HN.out.wf) (HI.out.2.below HBA.out (Nat.le_refl _)) (wf_F HN.out.wf') (HT.out.below (HI.out.1.trans (HBA.out.mono hs)) (Nat.le_refl _)) ((B.program_ok _ _ _).1 HN.out.may) ((B.program_ok _ _ _).1 HN.out.may') L1.out L2.out (by intro x hx; simp at hx; omega) (by intro x hx; simp at hx; omega) rfl rfl).mono ?_
     rintro e w5 ⟨rfl, hb⟩
     have HBV := Lib.hid (HBA.out.trans (hb.mono HBA.out.size))
     clear hb HBA L1 L2 hs
     go_wp2_with fail
     go_roundw
     case rel => exact ⟨v + 1, by go_num, h12, HI.out.1.trans (HBV.out.mono HI.out.1.size), HI.out.2.below HBV.out (Nat.le_refl _)⟩
     case measure => simp [intOf]; omega
    ·have e1 : ((v : Int) < 12) = False := by simp; omega
     go_wp2_with fail
     go_ret
     exact ⟨rfl, HI.out.1⟩

end Code
end Go.Proofs.YtegjeincncccaaaGreatDoor
