/- busbarlaw14: knownBytes: what is laid is read again, over each number of bytes; runs of few instructions over many values; by the laws as contracts. -/
import Derived.Test.YtmpeipdeablkdaaGreatDoorVkA
import Derived.Test.YtmpeipdeablkdaaGreatDoorRunA
namespace Go.Proofs.YtmpeipdeablkdaaGreatDoor
open Go.RowKit

namespace Code
open Go.Proofs.YtmpeipdeablkdaaGreatDoor.Code.One

attribute [local go_sem ↓] Go.wp_at_zero Go.wp_at_succ

def RunsLaw : Prop := ∀ (a0 : Option Addr) (len0 cap0 : Nat) (ps0 : List B.Ins) (pa1 : Option Addr) (pn1 pc1 : Nat) (pay1 : List Nat) (ia2 : Option Addr) (im2 ic2 : Nat) (inp2 : List Nat) (w : World), ProgAt w a0 len0 ps0 → (∀ y ∈ ps0, y.Wf) → len0 * 40 ≤ 140737488351232 → (a0 = none → cap0 = 0) →
 ListAt w pa1 pn1 (pay1.map u8V) → B.Bytes pay1 → (pa1 = none → pc1 = 0) → pn1 ≤ 9223372036854775807 → pn1 * 1 ≤ 140737488351232 → ListAt w ia2 im2 (inp2.map u64V) → B.Words inp2 → (ia2 = none → ic2 = 0) → im2 ≤ 9223372036854775807 → im2 * 8 ≤ 140737488351232 → Ready w →
 Calls Tryz.prog 33 #[.slice a0 len0 cap0, .slice pa1 pn1 pc1, .slice ia2 im2 ic2] w (BoolOut true w)
def BytesLaw : Prop := ∀ (pa0 : Option Addr) (pn0 pc0 : Nat) (pay0 : List Nat) (v1 : Nat) (from1 num1 : Int) (big1 : Bool) (w : World), ListAt w pa0 pn0 (pay0.map u8V) → B.Bytes pay0 → (pa0 = none → pc0 = 0) → pn0 ≤ 9223372036854775807 → v1 < 18446744073709551616 → B.In64 from1 → B.In64 num1 → Tabs w →
 Calls Tryz.prog 35 #[.slice pa0 pn0 pc0, .agg #[.int .u64 (v1 : Int), .int .i64 from1, .int .i64 num1, .bool big1]] w (BoolOut true w)

theorem runs_v (hL : RunsLaw) {a pa ia : Option Addr} {len cap pn pc im ic : Nat} {ps : List B.Ins} {pay inp : List Nat} {w : World} (hp : ProgAt w a len ps) (hwf : ∀ y ∈ ps, y.Wf) (hy : ListAt w pa pn (pay.map u8V)) (hb : B.Bytes pay) (hu : ListAt w ia im (inp.map u64V)) (hw : B.Words inp)
    (h : len ≤ 16 ∧ pn ≤ 100 ∧ im ≤ 100) (hn : (a = none → cap = 0) ∧ (pa = none → pc = 0) ∧ (ia = none → ic = 0)) (hR : Ready w) :
    Calls Tryz.prog 33 #[.slice a len cap, .slice pa pn pc, .slice ia im ic] w (BoolOut true w) :=
 hL a len cap ps pa pn pc pay ia im ic inp w hp hwf (by omega) hn.1 hy hb hn.2.1 (by omega) (by omega) hu hw hn.2.2 (by omega) (by omega) hR

def pay8 : List Nat := [17, 34, 51, 68, 85, 102, 119, 136]
theorem pay8_bytes : B.Bytes pay8 := by unfold B.Bytes; decide
def two8 : List B.Ins := [⟨15, 0, 63, 0, 0⟩, ⟨16, 0, 62, 0, 0⟩]
theorem two8_wf : ∀ y ∈ two8, y.Wf := wf_V (by decide +kernel)
theorem bytes_takeV {l : List Nat} (h : B.Bytes l) (n : Nat) : B.Bytes (l.take n) := fun b hb => h b (List.mem_of_mem_take hb)
theorem listAt_takeV {w : World} {a : Option Addr} {m n : Nat} {vs : List Value} (h : ListAt w a m vs) (hn : n ≤ m) : ListAt w a n (vs.take n) := by
 refine ⟨by rw [List.length_take]; have := h.len; omega, fun i v hv => ?_⟩
 rw [List.getElem?_take] at hv
 split at hv
 ·exact h.at_ i v hv
 ·cases hv
theorem listAt_nilV (w : World) : ListAt w none 0 [] := ⟨rfl, fun i x h => by simp at h⟩
theorem ownV_list {E : TypeId} {w : World} {base : Nat} {ao : Option Addr} {n cap : Nat} {vs : List Value} (h : OwnV E w base ao n cap vs) : ListAt w ao n vs := by
 refine ⟨h.len, fun i v hv => ?_⟩
 obtain ⟨g, rfl, _, hl, hc⟩ := h.cell hv
 exact ⟨g, 0, rfl, hl, by rw [Nat.zero_add]; exact hc⟩
theorem ownV_nil {E : TypeId} {w : World} {base : Nat} {ao : Option Addr} {n cap : Nat} {vs : List Value} (h : OwnV E w base ao n cap vs) : ao = none → cap = 0 := by
 intro e
 rcases h.form with ⟨_, _, h0⟩ | ⟨g, h1, _⟩
 ·exact h0
 ·rw [h1] at e; cases e
theorem ownV_newV (E : TypeId) (vs : List Value) (C : Array Value) (n : Nat) (w : World) (base X : Nat) (hC : C.toList = vs) (hn : n = vs.length) (hX : X = w.heap.size) (hb : base ≤ w.heap.size) (hm : n ≤ 100) : OwnV E (w.alloc (.cells C E)) base (some ⟨X, 0, none⟩) n n vs := by
 subst hX
 refine ⟨hn, by rw [Nat.mul_one]; exact hn.symm, .inr ⟨w.heap.size, n, C, rfl, hb, heap_alloc_new w _, Nat.le_refl _, by simp [maxLen]; omega, ?_, ?_⟩⟩
 ·rw [← hC] at hn; simp at hn; omega
 ·rw [hC, hn]; simp

theorem in64_nat {n : Nat} (h : n ≤ 1000) : B.In64 (n : Int) := ⟨by omega, by omega⟩

set_option maxRecDepth 100000 in
set_option maxHeartbeats 12800000 in
theorem knownBytes14_any (hL : RunsLaw) (hB : BytesLaw) (w : World) (hR : Ready w) : Calls Tryz.prog 12 #[] w (BoolOut true w) := by
 have HR := Lib.hid hR
 have HL := Lib.hid hL
 have HBy := Lib.hid hB
 clear hR hL hB
 obtain ⟨w0, hw0⟩ : ∃ w0, w.alloc (.cells #[.int .u8 17, .int .u8 34, .int .u8 51, .int .u8 68, .int .u8 85, .int .u8 102, .int .u8 119, .int .u8 136] 5) = w0 := ⟨_, rfl⟩
 have HB0 : Hid (Below w.heap.size w w0) := Lib.hid (by rw [← hw0]; exact (Below.refl _ _).alloc (Nat.le_refl _) _)
 have HP0 : Hid (ListAt w0 (some ⟨w.heap.size, 0, none⟩) 8 (pay8.map u8V)) := Lib.hid (by rw [← hw0]; exact listAt_new _ _ 8 _ _ _ rfl rfl rfl)
 have HO0 : Hid (OwnV 5 w0 w.heap.size (some ⟨w.heap.size, 0, none⟩) 8 8 (pay8.map u8V)) := Lib.hid (by rw [← hw0]; exact ownV_newV _ _ _ 8 _ _ _ rfl rfl rfl (Nat.le_refl _) (by omega))
 have hs0 : w.heap.size < w0.heap.size := by rw [← hw0]; simp
 go_enter Tryz.func12, Tryz.ntmps12
 go_wp2_with fail
 try rw [hw0]
 clear hw0
 go_loopw [2] (fun i wr => ∃ n : Nat, 1 ≤ n ∧ n ≤ 9 ∧ i = .int .i64 n ∧ Below w0.heap.size w0 wr) (fun i _ => 9 - (intOf i).toNat)
 case atStart => exact ⟨1, by omega, by omega, rfl, Below.refl _ _⟩
 case round =>
  obtain ⟨n, hn1, hn9, rfl, hbn⟩ := hrel
  have HBn := Lib.hid hbn
  clear hbn
  by_cases hn : n ≤ 8
  ·have n0 : (0 : Int) ≤ (n : Int) := by omega
   have n1 : (n : Int) ≤ 8 := by omega
   go_wp2_with fail
   go_loopw [3] (fun i wr => ∃ f : Nat, f ≤ 8 ∧ i = .int .i64 f ∧ Below w0.heap.size w0 wr) (fun i _ => 8 - (intOf i).toNat)
   case atStart => exact ⟨0, by omega, rfl, HBn.out⟩
   case round =>
    obtain ⟨f, hf8, rfl, hbf⟩ := hrel
    have HBf := Lib.hid hbf
    clear hbf
    by_cases hf : f < 8
    ·have f0 : (0 : Int) ≤ (f : Int) := by omega
     have f1 : (f : Int) < 8 := by omega
     go_wp2_with fail
     refine (HBy.out (some ⟨w.heap.size, 0, none⟩) 8 8 pay8 81985529216486895 f n false _ (HP0.out.below HBf.out (Nat.le_refl _)) pay8_bytes (fun h => by cases h) (by omega) (by omega) (in64_nat (by omega)) (in64_nat (by omega)) (HR.out.tabs.below (HB0.out.trans (HBf.out.mono (by omega))) (Nat.le_refl _))).mono ?_
     rintro e w1 ⟨rfl, hb1⟩
     have HB1 := Lib.hid (HBf.out.trans (hb1.mono HBf.out.size))
     clear hb1 HBf
     go_wp2_with fail
     refine (HBy.out (some ⟨w.heap.size, 0, none⟩) n 8 (pay8.take n) 18446744073709551615 f n true _ (by rw [List.map_take]; exact (listAt_takeV HP0.out (by omega)).below HB1.out (Nat.le_refl _)) (bytes_takeV pay8_bytes _) (fun h => by cases h) (by omega) (by omega) (in64_nat (by omega)) (in64_nat (by omega)) (HR.out.tabs.below (HB0.out.trans (HB1.out.mono (by omega))) (Nat.le_refl _))).mono ?_
     rintro e w2 ⟨rfl, hb2⟩
     have HB2 := Lib.hid (HB1.out.trans (hb2.mono HB1.out.size))
     clear hb2 HB1
     go_wp2_with fail
     go_roundw
     case rel => exact ⟨f + 1, by omega, by go_num, HB2.out⟩
     case measure => simp [intOf]; omega
    ·obtain rfl : f = 8 := by omega
     go_wp2_with fail
     go_roundw
     case rel => exact ⟨n + 1, by omega, by omega, by go_num, HBf.out⟩
     case measure => simp [intOf]; omega
  ·have n1 : ¬ (n : Int) ≤ 8 := by omega
   go_wp2_with fail
   go_loopw [4, 5] (fun s i wr => ∃ (a : Option Addr) (c k : Nat) (vs : List Nat), k ≤ 66 ∧ s = .slice a k c ∧ i = .int .i64 k ∧ OwnV 22 wr w0.heap.size a k c (vs.map u64V) ∧ B.Words vs ∧ Below w0.heap.size w0 wr) (fun _ i _ => 66 - (intOf i).toNat)
   case atStart => exact ⟨none, 0, 0, [], by omega, rfl, rfl, OwnV.nil _ _ _, fun b hb => by simp at hb, HBn.out⟩
   case round =>
    obtain ⟨a, c, k, vs, hk66, rfl, rfl, hown, hwd, hbk⟩ := hrel
    have HO := Lib.hid hown
    have HW := Lib.hid hwd
    have HBk := Lib.hid hbk
    clear hown hwd hbk
    by_cases hk : k < 66
    ·have k0 : (0 : Int) ≤ (k : Int) := by omega
     have k1 : (k : Int) < 66 := by omega
     go_wp2_with fail
     obtain ⟨w1, hw1⟩ : ∃ w1, wr.alloc (.cells #[.int .i64 15, .int .i64 0, .int .i64 63, .int .i64 0, .int .u64 0, .int .i64 16, .int .i64 0, .int .i64 62, .int .i64 0, .int .u64 0] 24) = w1 := ⟨_, rfl⟩
     try rw [hw1]
     have hba : Below wr.heap.size wr w1 := by rw [← hw1]; exact (Below.refl _ _).alloc (Nat.le_refl _) _
     have hp1 : ProgAt w1 (some ⟨wr.heap.size, 0, none⟩) 2 two8 := by rw [← hw1]; exact progAt_newV two8 _ 2 _ wr rfl rfl rfl
     have HB1 := Lib.hid (HBk.out.trans (hba.mono HBk.out.size))
     have HO1 := Lib.hid (HO.out.kept hba)
     refine (runs_v HL.out hp1 two8_wf (HP0.out.below HB1.out (Nat.le_refl _)) pay8_bytes (ownV_list HO1.out) HW.out (by omega) ⟨fun h => (by cases h), fun h => (by cases h), (ownV_nil HO1.out)⟩ (HR.out.below (HB0.out.trans (HB1.out.mono (by omega))) (Nat.le_refl _))).mono ?_
     rintro e w2 ⟨rfl, hb2⟩
     have HB2 := Lib.hid (HB1.out.trans (hb2.mono HB1.out.size))
     have HO2 := Lib.hid (HO1.out.kept hb2)
     clear hw1 hba hp1 hb2 HB1 HO1 HBk HO
     go_wp2_with fail
     refine (runs_v HL.out (progAt_nilV _) (fun y hy => by simp at hy) (HP0.out.below HB2.out (Nat.le_refl _)) pay8_bytes (ownV_list HO2.out) HW.out (by omega) ⟨fun _ => rfl, fun h => (by cases h), (ownV_nil HO2.out)⟩ (HR.out.below (HB0.out.trans (HB2.out.mono (by omega))) (Nat.le_refl _))).mono ?_
     rintro e w3 ⟨rfl, hb3⟩
     have HB3 := Lib.hid (HB2.out.trans (hb3.mono HB2.out.size))
     have HO3 := Lib.hid (HO2.out.kept hb3)
     have hs3 := HB3.out.size
     clear hb3 HB2 HO2
     have e1 : IntKind.u64.wrap (k : Int) = (k : Int) := by rw [IntKind.wrap_u64]; omega
     have e2 : IntKind.u64.wrap ((k : Int) * 77) = (k : Int) * 77 := by rw [IntKind.wrap_u64]; omega
     go_wp2_with (at_builtin; refine app_one Tryz.underlying33 infoEN rfl rfl _ _ rfl w0.heap.size rfl HO3.out rfl rfl (by omega) (by omega) hs3 ?_; intro ao' c' w5 hown5 _ _ hb5)
     have HO5 : Hid (OwnV 22 w5 w0.heap.size ao' (k + 1) c' ((vs ++ [k * 77]).map u64V)) := Lib.hid (by rw [List.map_append]; exact hown5)
     have HW5 : Hid (B.Words (vs ++ [k * 77])) := Lib.hid (fun b hb => by
      rcases List.mem_append.1 hb with h | h
      ·exact HW.out b h
      ·simp at h; omega)
     have HB5 := Lib.hid (HB3.out.trans hb5)
     clear hown5 hb5 HO3 HW HB3 e1 e2
     try go_wp2_with fail
     go_roundw
     case rel => exact ⟨ao', c', k + 1, vs ++ [k * 77], by omega, by go_num, by go_num, HO5.out, HW5.out, HB5.out⟩
     case measure => simp [intOf]; omega
    ·obtain rfl : k = 66 := by omega
     have hsk : w.heap.size ≤ wr.heap.size := by have := HBk.out.size; omega
     have HOP := Lib.hid (HO0.out.kept HBk.out)
     go_wp2_with (at_builtin; refine app_one Tryz.underlying32 infoEB rfl rfl _ _ rfl w.heap.size rfl HOP.out rfl rfl (by omega) (by omega) hsk ?_; intro ao' c' w5 hown5 _ _ hb5)
     have HO5 : Hid (OwnV 5 w5 w.heap.size ao' 9 c' ((pay8 ++ [9]).map u8V)) := Lib.hid hown5
     have HB5 := Lib.hid ((HB0.out.trans (HBk.out.mono (by omega))).trans hb5)
     clear hown5 hb5 HOP
     refine (runs_v HL.out (progAt_nilV _) (fun y hy => by simp at hy) (ownV_list HO5.out) (by unfold B.Bytes; decide) (inp := []) (listAt_nilV _) (fun b hb => by simp at hb) (by omega) ⟨fun _ => rfl, (ownV_nil HO5.out), fun _ => rfl⟩ (HR.out.below HB5.out (Nat.le_refl _))).mono ?_
     rintro e w6 ⟨rfl, hb6⟩
     have HB6 := Lib.hid (HB5.out.trans (hb6.mono HB5.out.size))
     clear hb6
     go_wp2_with fail
     refine (runs_v HL.out (progAt_nilV _) (fun y hy => by simp at hy) (pay := []) (listAt_nilV _) (fun b hb => by simp at hb) (inp := []) (listAt_nilV _) (fun b hb => by simp at hb) (by omega) ⟨fun _ => rfl, fun _ => rfl, fun _ => rfl⟩ (HR.out.below HB6.out (Nat.le_refl _))).mono ?_
     rintro e w7 ⟨rfl, hb7⟩
     have HB7 := Lib.hid (HB6.out.trans (hb7.mono HB6.out.size))
     clear hb7
     go_wp2_with fail
     go_ret
     exact ⟨rfl, HB7.out⟩

end Code
end Go.Proofs.YtmpeipdeablkdaaGreatDoor
