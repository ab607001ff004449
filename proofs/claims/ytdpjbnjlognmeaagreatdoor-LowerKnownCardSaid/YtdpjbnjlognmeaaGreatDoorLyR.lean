/- Package law15: what is known of lower, walked. -/
import Derived.Test.YtdpjbnjlognmeaaGreatDoorLyQ
import Derived.Test.YtdpjbnjlognmeaaGreatDoorErrQ
namespace Go.Proofs.YtdpjbnjlognmeaaGreatDoor
open Go.RowKit

namespace B
def nM : Msg := ⟨0, 0, 0, false, ⟨#[78]⟩, 8, ⟨#[65]⟩, []⟩
def zM : Msg := ⟨0, 0, 0, false, ⟨#[90]⟩, 0, ⟨#[65]⟩, []⟩
theorem nM_no : nM.no.1 = 0 := by decide +kernel
theorem zM_no : zM.no.1 = 0 := by decide +kernel
theorem nM_run : (run nM.packI [] 0 (start [1, 2, 3, 4, 5, 6, 7, 8] 0)).failed = none ∧ (run nM.packI [] 0 (start [1, 2, 3, 4, 5, 6, 7, 8] 0)).st.pay = [0, 0, 0, 0, 0, 0, 0, 0] := by decide +kernel
theorem zM_run : (run zM.packI [] 0 (start [] 0)).failed = none ∧ (run zM.packI [] 0 (start [] 0)).st.pay = [] := by decide +kernel
theorem is0_run : (run exM.packI [3, 18446744073709551614, 999, 1] 0 (start [255, 255] 4)).failed = none ∧ (run exM.packI [3, 18446744073709551614, 999, 1] 0 (start [255, 255] 4)).st.pay = [231, 0] := by rw [← exL_eq]; decide +kernel
theorem is1_run : (run exM.packI [2, 99, 165, 0] 0 (start [255, 255] 4)).failed = none ∧ (run exM.packI [2, 99, 165, 0] 0 (start [255, 255] 4)).st.pay = [2, 165] := by rw [← exL_eq]; decide +kernel
theorem is2_run : (run exM.packI [1, 99, 999, 1] 0 (start [255, 255] 4)).failed = none ∧ (run exM.packI [1, 99, 999, 1] 0 (start [255, 255] 4)).st.pay = [5, 0] := by rw [← exL_eq]; decide +kernel
theorem fails0_run : (run exM.packI [3, 8, 0, 2] 0 (start [0, 0] 4)).failed = some 1 := by rw [← exL_eq]; decide +kernel
theorem fails1_run : (run exM.packI [4, 8, 0, 0] 0 (start [0, 0] 4)).failed = some 0 := by rw [← exL_eq]; decide +kernel
theorem getD_all {has : List Bool} {P : Nat → Prop} (hl : has.length = 4) (h : ∀ k : Fin 4, has.getD k.val false = true → P k.val) : ∀ k, has.getD k false = true → P k := fun k hk => by
 by_cases h4 : k < 4
 ·exact h ⟨k, h4⟩ hk
 ·rw [List.getD_eq_getElem?_getD, List.getElem?_eq_none (by omega)] at hk
  cases hk
theorem reads0_run : (run exM.unpackI (List.replicate 4 77) 0 (start [231, 0] 4)).failed = none ∧ (run exM.unpackI (List.replicate 4 77) 0 (start [231, 0] 4)).st.has = [true, true, false, true] ∧ (run exM.unpackI (List.replicate 4 77) 0 (start [231, 0] 4)).st.out.length = 4 ∧ ∀ k, ([true, true, false, true] : List Bool).getD k false = true → (run exM.unpackI (List.replicate 4 77) 0 (start [231, 0] 4)).st.out.getD k 0 = ([3, 18446744073709551614, 0, 1] : List Nat).getD k 0 := by
 rw [← exL_eq]
 exact ⟨by decide +kernel, by decide +kernel, by decide +kernel, getD_all rfl (by decide +kernel)⟩
theorem reads1_run : (run exM.unpackI (List.replicate 4 77) 0 (start [250, 165] 4)).failed = none ∧ (run exM.unpackI (List.replicate 4 77) 0 (start [250, 165] 4)).st.has = [true, false, true, true] ∧ (run exM.unpackI (List.replicate 4 77) 0 (start [250, 165] 4)).st.out.length = 4 ∧ ∀ k, ([true, false, true, true] : List Bool).getD k false = true → (run exM.unpackI (List.replicate 4 77) 0 (start [250, 165] 4)).st.out.getD k 0 = ([2, 0, 165, 0] : List Nat).getD k 0 := by
 rw [← exL_eq]
 exact ⟨by decide +kernel, by decide +kernel, by decide +kernel, getD_all rfl (by decide +kernel)⟩
theorem reads2_run : (run exM.unpackI (List.replicate 4 77) 0 (start [5, 255] 4)).failed = none ∧ (run exM.unpackI (List.replicate 4 77) 0 (start [5, 255] 4)).st.has = [true, false, false, true] ∧ (run exM.unpackI (List.replicate 4 77) 0 (start [5, 255] 4)).st.out.length = 4 ∧ ∀ k, ([true, false, false, true] : List Bool).getD k false = true → (run exM.unpackI (List.replicate 4 77) 0 (start [5, 255] 4)).st.out.getD k 0 = ([1, 0, 0, 1] : List Nat).getD k 0 := by
 rw [← exL_eq]
 exact ⟨by decide +kernel, by decide +kernel, by decide +kernel, getD_all rfl (by decide +kernel)⟩
end B

namespace Code

attribute [local go_sem ↓] Go.wp_at_zero Go.wp_at_succ

theorem wf_n : MsgWf B.nM := by
 refine ⟨show B.In64 0 from ⟨by omega, by omega⟩, show B.In64 0 from ⟨by omega, by omega⟩, ⟨show (0 : Int) ≤ 0 by omega, show (0 : Int) ≤ 4294967295 by omega⟩, by show (ByteArray.mk #[78]).size ≤ _; decide, show B.In64 8 from ⟨by omega, by omega⟩, by show (ByteArray.mk #[65]).size ≤ _; decide, fun s hs => by cases hs⟩
theorem wf_z : MsgWf B.zM := by
 refine ⟨show B.In64 0 from ⟨by omega, by omega⟩, show B.In64 0 from ⟨by omega, by omega⟩, ⟨show (0 : Int) ≤ 0 by omega, show (0 : Int) ≤ 4294967295 by omega⟩, by show (ByteArray.mk #[90]).size ≤ _; decide, show B.In64 0 from ⟨by omega, by omega⟩, by show (ByteArray.mk #[65]).size ≤ _; decide, fun s hs => by cases hs⟩

set_option maxRecDepth 100000 in
set_option maxHeartbeats 25600000 in
theorem lowerKnown_any (w : World) (hU : UTabs w) (hT : Tabs w) : Calls Tryz.prog 5 #[] w (BoolOut true w) := by
 have HU := Lib.hid hU
 have HT := Lib.hid hT
 have HB0 := Lib.hid (Below.refl w.heap.size w)
 clear hU hT
 go_enter Tryz.func5, Tryz.ntmps5
 go_wp2_with fail
 have hbi : Below w.heap.size w ((w.alloc (.cells #[.int .u64 3, .int .u64 18446744073709551614, .int .u64 999, .int .u64 1] 35)).alloc (.cells #[.int .u8 231, .int .u8 0] 5)) := (((Below.refl _ _).alloc (Nat.le_refl _) _).alloc (by first | exact Nat.le_refl _ | (simp; done) | (simp; omega)) _)
 have hl0 := (listAt_new (([3, 18446744073709551614, 999, 1] : List Nat).map u64V) #[.int .u64 3, .int .u64 18446744073709551614, .int .u64 999, .int .u64 1] 4 w.heap.size 35 w rfl rfl rfl).below (w' := ((w.alloc (.cells #[.int .u64 3, .int .u64 18446744073709551614, .int .u64 999, .int .u64 1] 35)).alloc (.cells #[.int .u8 231, .int .u8 0] 5))) (((Below.refl _ _).alloc (Nat.le_refl _) _) : Below (w.alloc (.cells #[.int .u64 3, .int .u64 18446744073709551614, .int .u64 999, .int .u64 1] 35)).heap.size (w.alloc (.cells #[.int .u64 3, .int .u64 18446744073709551614, .int .u64 999, .int .u64 1] 35)) ((w.alloc (.cells #[.int .u64 3, .int .u64 18446744073709551614, .int .u64 999, .int .u64 1] 35)).alloc (.cells #[.int .u8 231, .int .u8 0] 5))) (Nat.le_refl _)
 have hl1 := (listAt_new (([231, 0] : List Nat).map u8V) #[.int .u8 231, .int .u8 0] 2 (w.heap.size + 1) 5 (w.alloc (.cells #[.int .u64 3, .int .u64 18446744073709551614, .int .u64 999, .int .u64 1] 35)) rfl rfl (by first | (simp; done) | (simp; omega))).below (w' := ((w.alloc (.cells #[.int .u64 3, .int .u64 18446744073709551614, .int .u64 999, .int .u64 1] 35)).alloc (.cells #[.int .u8 231, .int .u8 0] 5))) ((Below.refl _ _) : Below ((w.alloc (.cells #[.int .u64 3, .int .u64 18446744073709551614, .int .u64 999, .int .u64 1] 35)).alloc (.cells #[.int .u8 231, .int .u8 0] 5)).heap.size ((w.alloc (.cells #[.int .u64 3, .int .u64 18446744073709551614, .int .u64 999, .int .u64 1] 35)).alloc (.cells #[.int .u8 231, .int .u8 0] 5)) ((w.alloc (.cells #[.int .u64 3, .int .u64 18446744073709551614, .int .u64 999, .int .u64 1] 35)).alloc (.cells #[.int .u8 231, .int .u8 0] 5))) (Nat.le_refl _)
 have hbel := HB0.out.trans (hbi.mono HB0.out.size)
 have hc := is_yes (some ⟨w.heap.size, 0, none⟩) (some ⟨(w.heap.size + 1), 0, none⟩) 4 2 [3, 18446744073709551614, 999, 1] [231, 0] _ (HU.out.below hbel (Nat.le_refl _)) (HT.out.below hbel (Nat.le_refl _)) hl0 hl1 (by unfold B.Words; decide) B.is0_run
 have HBN := Lib.hid hbel
 refine hc.mono ?_
 rintro e v1 ⟨rfl, hbz⟩
 have HB1 := Lib.hid (HBN.out.trans (hbz.mono HBN.out.size))
 clear hbi hbel hc hbz HBN HB0 hl0 hl1
 go_wp2_with fail
 have hbi : Below v1.heap.size v1 ((v1.alloc (.cells #[.int .u64 2, .int .u64 99, .int .u64 165, .int .u64 0] 35)).alloc (.cells #[.int .u8 2, .int .u8 165] 5)) := (((Below.refl _ _).alloc (Nat.le_refl _) _).alloc (by first | exact Nat.le_refl _ | (simp; done) | (simp; omega)) _)
 have hl0 := (listAt_new (([2, 99, 165, 0] : List Nat).map u64V) #[.int .u64 2, .int .u64 99, .int .u64 165, .int .u64 0] 4 v1.heap.size 35 v1 rfl rfl rfl).below (w' := ((v1.alloc (.cells #[.int .u64 2, .int .u64 99, .int .u64 165, .int .u64 0] 35)).alloc (.cells #[.int .u8 2, .int .u8 165] 5))) (((Below.refl _ _).alloc (Nat.le_refl _) _) : Below (v1.alloc (.cells #[.int .u64 2, .int .u64 99, .int .u64 165, .int .u64 0] 35)).heap.size (v1.alloc (.cells #[.int .u64 2, .int .u64 99, .int .u64 165, .int .u64 0] 35)) ((v1.alloc (.cells #[.int .u64 2, .int .u64 99, .int .u64 165, .int .u64 0] 35)).alloc (.cells #[.int .u8 2, .int .u8 165] 5))) (Nat.le_refl _)
 have hl1 := (listAt_new (([2, 165] : List Nat).map u8V) #[.int .u8 2, .int .u8 165] 2 (v1.heap.size + 1) 5 (v1.alloc (.cells #[.int .u64 2, .int .u64 99, .int .u64 165, .int .u64 0] 35)) rfl rfl (by first | (simp; done) | (simp; omega))).below (w' := ((v1.alloc (.cells #[.int .u64 2, .int .u64 99, .int .u64 165, .int .u64 0] 35)).alloc (.cells #[.int .u8 2, .int .u8 165] 5))) ((Below.refl _ _) : Below ((v1.alloc (.cells #[.int .u64 2, .int .u64 99, .int .u64 165, .int .u64 0] 35)).alloc (.cells #[.int .u8 2, .int .u8 165] 5)).heap.size ((v1.alloc (.cells #[.int .u64 2, .int .u64 99, .int .u64 165, .int .u64 0] 35)).alloc (.cells #[.int .u8 2, .int .u8 165] 5)) ((v1.alloc (.cells #[.int .u64 2, .int .u64 99, .int .u64 165, .int .u64 0] 35)).alloc (.cells #[.int .u8 2, .int .u8 165] 5))) (Nat.le_refl _)
 have hbel := HB1.out.trans (hbi.mono HB1.out.size)
 have hc := is_yes (some ⟨v1.heap.size, 0, none⟩) (some ⟨(v1.heap.size + 1), 0, none⟩) 4 2 [2, 99, 165, 0] [2, 165] _ (HU.out.below hbel (Nat.le_refl _)) (HT.out.below hbel (Nat.le_refl _)) hl0 hl1 (by unfold B.Words; decide) B.is1_run
 have HBN := Lib.hid hbel
 refine hc.mono ?_
 rintro e v2 ⟨rfl, hbz⟩
 have HB2 := Lib.hid (HBN.out.trans (hbz.mono HBN.out.size))
 clear hbi hbel hc hbz HBN HB1 hl0 hl1
 go_wp2_with fail
 have hbi : Below v2.heap.size v2 ((v2.alloc (.cells #[.int .u64 1, .int .u64 99, .int .u64 999, .int .u64 1] 35)).alloc (.cells #[.int .u8 5, .int .u8 0] 5)) := (((Below.refl _ _).alloc (Nat.le_refl _) _).alloc (by first | exact Nat.le_refl _ | (simp; done) | (simp; omega)) _)
 have hl0 := (listAt_new (([1, 99, 999, 1] : List Nat).map u64V) #[.int .u64 1, .int .u64 99, .int .u64 999, .int .u64 1] 4 v2.heap.size 35 v2 rfl rfl rfl).below (w' := ((v2.alloc (.cells #[.int .u64 1, .int .u64 99, .int .u64 999, .int .u64 1] 35)).alloc (.cells #[.int .u8 5, .int .u8 0] 5))) (((Below.refl _ _).alloc (Nat.le_refl _) _) : Below (v2.alloc (.cells #[.int .u64 1, .int .u64 99, .int .u64 999, .int .u64 1] 35)).heap.size (v2.alloc (.cells #[.int .u64 1, .int .u64 99, .int .u64 999, .int .u64 1] 35)) ((v2.alloc (.cells #[.int .u64 1, .int .u64 99, .int .u64 999, .int .u64 1] 35)).alloc (.cells #[.int .u8 5, .int .u8 0] 5))) (Nat.le_refl _)
 have hl1 := (listAt_new (([5, 0] : List Nat).map u8V) #[.int .u8 5, .int .u8 0] 2 (v2.heap.size + 1) 5 (v2.alloc (.cells #[.int .u64 1, .int .u64 99, .int .u64 999, .int .u64 1] 35)) rfl rfl (by first | (simp; done) | (simp; omega))).below (w' := ((v2.alloc (.cells #[.int .u64 1, .int .u64 99, .int .u64 999, .int .u64 1] 35)).alloc (.cells #[.int .u8 5, .int .u8 0] 5))) ((Below.refl _ _) : Below ((v2.alloc (.cells #[.int .u64 1, .int .u64 99, .int .u64 999, .int .u64 1] 35)).alloc (.cells #[.int .u8 5, .int .u8 0] 5)).heap.size ((v2.alloc (.cells #[.int .u64 1, .int .u64 99, .int .u64 999, .int .u64 1] 35)).alloc (.cells #[.int .u8 5, .int .u8 0] 5)) ((v2.alloc (.cells #[.int .u64 1, .int .u64 99, .int .u64 999, .int .u64 1] 35)).alloc (.cells #[.int .u8 5, .int .u8 0] 5))) (Nat.le_refl _)
 have hbel := HB2.out.trans (hbi.mono HB2.out.size)
 have hc := is_yes (some ⟨v2.heap.size, 0, none⟩) (some ⟨(v2.heap.size + 1), 0, none⟩) 4 2 [1, 99, 999, 1] [5, 0] _ (HU.out.below hbel (Nat.le_refl _)) (HT.out.below hbel (Nat.le_refl _)) hl0 hl1 (by unfold B.Words; decide) B.is2_run
 have HBN := Lib.hid hbel
 refine hc.mono ?_
 rintro e v3 ⟨rfl, hbz⟩
 have HB3 := Lib.hid (HBN.out.trans (hbz.mono HBN.out.size))
 clear hbi hbel hc hbz HBN HB2 hl0 hl1
 go_wp2_with fail
 have hbi : Below v3.heap.size v3 (v3.alloc (.cells #[.int .u64 3, .int .u64 8, .int .u64 0, .int .u64 2] 35)) := ((Below.refl _ _).alloc (Nat.le_refl _) _)
 have hl0 := (listAt_new (([3, 8, 0, 2] : List Nat).map u64V) #[.int .u64 3, .int .u64 8, .int .u64 0, .int .u64 2] 4 v3.heap.size 35 v3 rfl rfl rfl).below (w' := (v3.alloc (.cells #[.int .u64 3, .int .u64 8, .int .u64 0, .int .u64 2] 35))) ((Below.refl _ _) : Below (v3.alloc (.cells #[.int .u64 3, .int .u64 8, .int .u64 0, .int .u64 2] 35)).heap.size (v3.alloc (.cells #[.int .u64 3, .int .u64 8, .int .u64 0, .int .u64 2] 35)) (v3.alloc (.cells #[.int .u64 3, .int .u64 8, .int .u64 0, .int .u64 2] 35))) (Nat.le_refl _)
 have hbel := HB3.out.trans (hbi.mono HB3.out.size)
 have hc := fails_yes (some ⟨v3.heap.size, 0, none⟩) 4 1 [3, 8, 0, 2] _ (HU.out.below hbel (Nat.le_refl _)) (HT.out.below hbel (Nat.le_refl _)) hl0 (by unfold B.Words; decide) B.fails0_run
 have HBN := Lib.hid hbel
 refine hc.mono ?_
 rintro e v4 ⟨rfl, hbz⟩
 have HB4 := Lib.hid (HBN.out.trans (hbz.mono HBN.out.size))
 clear hbi hbel hc hbz HBN HB3 hl0
 go_wp2_with fail
 have hbi : Below v4.heap.size v4 (v4.alloc (.cells #[.int .u64 4, .int .u64 8, .int .u64 0, .int .u64 0] 35)) := ((Below.refl _ _).alloc (Nat.le_refl _) _)
 have hl0 := (listAt_new (([4, 8, 0, 0] : List Nat).map u64V) #[.int .u64 4, .int .u64 8, .int .u64 0, .int .u64 0] 4 v4.heap.size 35 v4 rfl rfl rfl).below (w' := (v4.alloc (.cells #[.int .u64 4, .int .u64 8, .int .u64 0, .int .u64 0] 35))) ((Below.refl _ _) : Below (v4.alloc (.cells #[.int .u64 4, .int .u64 8, .int .u64 0, .int .u64 0] 35)).heap.size (v4.alloc (.cells #[.int .u64 4, .int .u64 8, .int .u64 0, .int .u64 0] 35)) (v4.alloc (.cells #[.int .u64 4, .int .u64 8, .int .u64 0, .int .u64 0] 35))) (Nat.le_refl _)
 have hbel := HB4.out.trans (hbi.mono HB4.out.size)
 have hc := fails_yes (some ⟨v4.heap.size, 0, none⟩) 4 0 [4, 8, 0, 0] _ (HU.out.below hbel (Nat.le_refl _)) (HT.out.below hbel (Nat.le_refl _)) hl0 (by unfold B.Words; decide) B.fails1_run
 have HBN := Lib.hid hbel
 refine hc.mono ?_
 rintro e v5 ⟨rfl, hbz⟩
 have HB5 := Lib.hid (HBN.out.trans (hbz.mono HBN.out.size))
 clear hbi hbel hc hbz HBN HB4 hl0
 go_wp2_with fail
 have hbi : Below v5.heap.size v5 (((v5.alloc (.cells #[.int .u8 231, .int .u8 0] 5)).alloc (.cells #[.int .u64 3, .int .u64 18446744073709551614, .int .u64 0, .int .u64 1] 35)).alloc (.cells #[.bool true, .bool true, .bool false, .bool true] 4)) := ((((Below.refl _ _).alloc (Nat.le_refl _) _).alloc (by first | exact Nat.le_refl _ | (simp; done) | (simp; omega)) _).alloc (by first | exact Nat.le_refl _ | (simp; done) | (simp; omega)) _)
 have hl0 := (listAt_new (([231, 0] : List Nat).map u8V) #[.int .u8 231, .int .u8 0] 2 v5.heap.size 5 v5 rfl rfl rfl).below (w' := (((v5.alloc (.cells #[.int .u8 231, .int .u8 0] 5)).alloc (.cells #[.int .u64 3, .int .u64 18446744073709551614, .int .u64 0, .int .u64 1] 35)).alloc (.cells #[.bool true, .bool true, .bool false, .bool true] 4))) ((((Below.refl _ _).alloc (Nat.le_refl _) _).alloc (by first | exact Nat.le_refl _ | (simp; done) | (simp; omega)) _) : Below (v5.alloc (.cells #[.int .u8 231, .int .u8 0] 5)).heap.size (v5.alloc (.cells #[.int .u8 231, .int .u8 0] 5)) (((v5.alloc (.cells #[.int .u8 231, .int .u8 0] 5)).alloc (.cells #[.int .u64 3, .int .u64 18446744073709551614, .int .u64 0, .int .u64 1] 35)).alloc (.cells #[.bool true, .bool true, .bool false, .bool true] 4))) (Nat.le_refl _)
 have hl1 := (listAt_new (([3, 18446744073709551614, 0, 1] : List Nat).map u64V) #[.int .u64 3, .int .u64 18446744073709551614, .int .u64 0, .int .u64 1] 4 (v5.heap.size + 1) 35 (v5.alloc (.cells #[.int .u8 231, .int .u8 0] 5)) rfl rfl (by first | (simp; done) | (simp; omega))).below (w' := (((v5.alloc (.cells #[.int .u8 231, .int .u8 0] 5)).alloc (.cells #[.int .u64 3, .int .u64 18446744073709551614, .int .u64 0, .int .u64 1] 35)).alloc (.cells #[.bool true, .bool true, .bool false, .bool true] 4))) (((Below.refl _ _).alloc (Nat.le_refl _) _) : Below ((v5.alloc (.cells #[.int .u8 231, .int .u8 0] 5)).alloc (.cells #[.int .u64 3, .int .u64 18446744073709551614, .int .u64 0, .int .u64 1] 35)).heap.size ((v5.alloc (.cells #[.int .u8 231, .int .u8 0] 5)).alloc (.cells #[.int .u64 3, .int .u64 18446744073709551614, .int .u64 0, .int .u64 1] 35)) (((v5.alloc (.cells #[.int .u8 231, .int .u8 0] 5)).alloc (.cells #[.int .u64 3, .int .u64 18446744073709551614, .int .u64 0, .int .u64 1] 35)).alloc (.cells #[.bool true, .bool true, .bool false, .bool true] 4))) (Nat.le_refl _)
 have hl2 := (listAt_new (([true, true, false, true] : List Bool).map Value.bool) #[.bool true, .bool true, .bool false, .bool true] 4 (v5.heap.size + 2) 4 ((v5.alloc (.cells #[.int .u8 231, .int .u8 0] 5)).alloc (.cells #[.int .u64 3, .int .u64 18446744073709551614, .int .u64 0, .int .u64 1] 35)) rfl rfl (by first | (simp; done) | (simp; omega))).below (w' := (((v5.alloc (.cells #[.int .u8 231, .int .u8 0] 5)).alloc (.cells #[.int .u64 3, .int .u64 18446744073709551614, .int .u64 0, .int .u64 1] 35)).alloc (.cells #[.bool true, .bool true, .bool false, .bool true] 4))) ((Below.refl _ _) : Below (((v5.alloc (.cells #[.int .u8 231, .int .u8 0] 5)).alloc (.cells #[.int .u64 3, .int .u64 18446744073709551614, .int .u64 0, .int .u64 1] 35)).alloc (.cells #[.bool true, .bool true, .bool false, .bool true] 4)).heap.size (((v5.alloc (.cells #[.int .u8 231, .int .u8 0] 5)).alloc (.cells #[.int .u64 3, .int .u64 18446744073709551614, .int .u64 0, .int .u64 1] 35)).alloc (.cells #[.bool true, .bool true, .bool false, .bool true] 4)) (((v5.alloc (.cells #[.int .u8 231, .int .u8 0] 5)).alloc (.cells #[.int .u64 3, .int .u64 18446744073709551614, .int .u64 0, .int .u64 1] 35)).alloc (.cells #[.bool true, .bool true, .bool false, .bool true] 4))) (Nat.le_refl _)
 have hbel := HB5.out.trans (hbi.mono HB5.out.size)
 have hc := reads_yes (some ⟨v5.heap.size, 0, none⟩) (some ⟨(v5.heap.size + 1), 0, none⟩) (some ⟨(v5.heap.size + 2), 0, none⟩) 2 4 4 [231, 0] [3, 18446744073709551614, 0, 1] [true, true, false, true] _ (HU.out.below hbel (Nat.le_refl _)) (HT.out.below hbel (Nat.le_refl _)) hl0 hl1 hl2 (by unfold B.Bytes; decide) B.reads0_run
 have HBN := Lib.hid hbel
 refine hc.mono ?_
 rintro e v6 ⟨rfl, hbz⟩
 have HB6 := Lib.hid (HBN.out.trans (hbz.mono HBN.out.size))
 clear hbi hbel hc hbz HBN HB5 hl0 hl1 hl2
 go_wp2_with fail
 have hbi : Below v6.heap.size v6 (((v6.alloc (.cells #[.int .u8 250, .int .u8 165] 5)).alloc (.cells #[.int .u64 2, .int .u64 0, .int .u64 165, .int .u64 0] 35)).alloc (.cells #[.bool true, .bool false, .bool true, .bool true] 4)) := ((((Below.refl _ _).alloc (Nat.le_refl _) _).alloc (by first | exact Nat.le_refl _ | (simp; done) | (simp; omega)) _).alloc (by first | exact Nat.le_refl _ | (simp; done) | (simp; omega)) _)
 have hl0 := (listAt_new (([250, 165] : List Nat).map u8V) #[.int .u8 250, .int .u8 165] 2 v6.heap.size 5 v6 rfl rfl rfl).below (w' := (((v6.alloc (.cells #[.int .u8 250, .int .u8 165] 5)).alloc (.cells #[.int .u64 2, .int .u64 0, .int .u64 165, .int .u64 0] 35)).alloc (.cells #[.bool true, .bool false, .bool true, .bool true] 4))) ((((Below.refl _ _).alloc (Nat.le_refl _) _).alloc (by first | exact Nat.le_refl _ | (simp; done) | (simp; omega)) _) : Below (v6.alloc (.cells #[.int .u8 250, .int .u8 165] 5)).heap.size (v6.alloc (.cells #[.int .u8 250, .int .u8 165] 5)) (((v6.alloc (.cells #[.int .u8 250, .int .u8 165] 5)).alloc (.cells #[.int .u64 2, .int .u64 0, .int .u64 165, .int .u64 0] 35)).alloc (.cells #[.bool true, .bool false, .bool true, .bool true] 4))) (Nat.le_refl _)
 have hl1 := (listAt_new (([2, 0, 165, 0] : List Nat).map u64V) #[.int .u64 2, .int .u64 0, .int .u64 165, .int .u64 0] 4 (v6.heap.size + 1) 35 (v6.alloc (.cells #[.int .u8 250, .int .u8 165] 5)) rfl rfl (by first | (simp; done) | (simp; omega))).below (w' := (((v6.alloc (.cells #[.int .u8 250, .int .u8 165] 5)).alloc (.cells #[.int .u64 2, .int .u64 0, .int .u64 165, .int .u64 0] 35)).alloc (.cells #[.bool true, .bool false, .bool true, .bool true] 4))) (((Below.refl _ _).alloc (Nat.le_refl _) _) : Below ((v6.alloc (.cells #[.int .u8 250, .int .u8 165] 5)).alloc (.cells #[.int .u64 2, .int .u64 0, .int .u64 165, .int .u64 0] 35)).heap.size ((v6.alloc (.cells #[.int .u8 250, .int .u8 165] 5)).alloc (.cells #[.int .u64 2, .int .u64 0, .int .u64 165, .int .u64 0] 35)) (((v6.alloc (.cells #[.int .u8 250, .int .u8 165] 5)).alloc (.cells #[.int .u64 2, .int .u64 0, .int .u64 165, .int .u64 0] 35)).alloc (.cells #[.bool true, .bool false, .bool true, .bool true] 4))) (Nat.le_refl _)
 have hl2 := (listAt_new (([true, false, true, true] : List Bool).map Value.bool) #[.bool true, .bool false, .bool true, .bool true] 4 (v6.heap.size + 2) 4 ((v6.alloc (.cells #[.int .u8 250, .int .u8 165] 5)).alloc (.cells #[.int .u64 2, .int .u64 0, .int .u64 165, .int .u64 0] 35)) rfl rfl (by first | (simp; done) | (simp; omega))).below (w' := (((v6.alloc (.cells #[.int .u8 250, .int .u8 165] 5)).alloc (.cells #[.int .u64 2, .int .u64 0, .int .u64 165, .int .u64 0] 35)).alloc (.cells #[.bool true, .bool false, .bool true, .bool true] 4))) ((Below.refl _ _) : Below (((v6.alloc (.cells #[.int .u8 250, .int .u8 165] 5)).alloc (.cells #[.int .u64 2, .int .u64 0, .int .u64 165, .int .u64 0] 35)).alloc (.cells #[.bool true, .bool false, .bool true, .bool true] 4)).heap.size (((v6.alloc (.cells #[.int .u8 250, .int .u8 165] 5)).alloc (.cells #[.int .u64 2, .int .u64 0, .int .u64 165, .int .u64 0] 35)).alloc (.cells #[.bool true, .bool false, .bool true, .bool true] 4)) (((v6.alloc (.cells #[.int .u8 250, .int .u8 165] 5)).alloc (.cells #[.int .u64 2, .int .u64 0, .int .u64 165, .int .u64 0] 35)).alloc (.cells #[.bool true, .bool false, .bool true, .bool true] 4))) (Nat.le_refl _)
 have hbel := HB6.out.trans (hbi.mono HB6.out.size)
 have hc := reads_yes (some ⟨v6.heap.size, 0, none⟩) (some ⟨(v6.heap.size + 1), 0, none⟩) (some ⟨(v6.heap.size + 2), 0, none⟩) 2 4 4 [250, 165] [2, 0, 165, 0] [true, false, true, true] _ (HU.out.below hbel (Nat.le_refl _)) (HT.out.below hbel (Nat.le_refl _)) hl0 hl1 hl2 (by unfold B.Bytes; decide) B.reads1_run
 have HBN := Lib.hid hbel
 refine hc.mono ?_
 rintro e v7 ⟨rfl, hbz⟩
 have HB7 := Lib.hid (HBN.out.trans (hbz.mono HBN.out.size))
 clear hbi hbel hc hbz HBN HB6 hl0 hl1 hl2
 go_wp2_with fail
 have hbi : Below v7.heap.size v7 (((v7.alloc (.cells #[.int .u8 5, .int .u8 255] 5)).alloc (.cells #[.int .u64 1, .int .u64 0, .int .u64 0, .int .u64 1] 35)).alloc (.cells #[.bool true, .bool false, .bool false, .bool true] 4)) := ((((Below.refl _ _).alloc (Nat.le_refl _) _).alloc (by first | exact Nat.le_refl _ | (simp; done) | (simp; omega)) _).alloc (by first | exact Nat.le_refl _ | (simp; done) | (simp; omega)) _)
 have hl0 := (listAt_new (([5, 255] : List Nat).map u8V) #[.int .u8 5, .int .u8 255] 2 v7.heap.size 5 v7 rfl rfl rfl).below (w' := (((v7.alloc (.cells #[.int .u8 5, .int .u8 255] 5)).alloc (.cells #[.int .u64 1, .int .u64 0, .int .u64 0, .int .u64 1] 35)).alloc (.cells #[.bool true, .bool false, .bool false, .bool true] 4))) ((((Below.refl _ _).alloc (Nat.le_refl _) _).alloc (by first | exact Nat.le_refl _ | (simp; done) | (simp; omega)) _) : Below (v7.alloc (.cells #[.int .u8 5, .int .u8 255] 5)).heap.size (v7.alloc (.cells #[.int .u8 5, .int .u8 255] 5)) (((v7.alloc (.cells #[.int .u8 5, .int .u8 255] 5)).alloc (.cells #[.int .u64 1, .int .u64 0, .int .u64 0, .int .u64 1] 35)).alloc (.cells #[.bool true, .bool false, .bool false, .bool true] 4))) (Nat.le_refl _)
 have hl1 := (listAt_new (([1, 0, 0, 1] : List Nat).map u64V) #[.int .u64 1, .int .u64 0, .int .u64 0, .int .u64 1] 4 (v7.heap.size + 1) 35 (v7.alloc (.cells #[.int .u8 5, .int .u8 255] 5)) rfl rfl (by first | (simp; done) | (simp; omega))).below (w' := (((v7.alloc (.cells #[.int .u8 5, .int .u8 255] 5)).alloc (.cells #[.int .u64 1, .int .u64 0, .int .u64 0, .int .u64 1] 35)).alloc (.cells #[.bool true, .bool false, .bool false, .bool true] 4))) (((Below.refl _ _).alloc (Nat.le_refl _) _) : Below ((v7.alloc (.cells #[.int .u8 5, .int .u8 255] 5)).alloc (.cells #[.int .u64 1, .int .u64 0, .int .u64 0, .int .u64 1] 35)).heap.size ((v7.alloc (.cells #[.int .u8 5, .int .u8 255] 5)).alloc (.cells #[.int .u64 1, .int .u64 0, .int .u64 0, .int .u64 1] 35)) (((v7.alloc (.cells #[.int .u8 5, .int .u8 255] 5)).alloc (.cells #[.int .u64 1, .int .u64 0, .int .u64 0, .int .u64 1] 35)).alloc (.cells #[.bool true, .bool false, .bool false, .bool true] 4))) (Nat.le_refl _)
 have hl2 := (listAt_new (([true, false, false, true] : List Bool).map Value.bool) #[.bool true, .bool false, .bool false, .bool true] 4 (v7.heap.size + 2) 4 ((v7.alloc (.cells #[.int .u8 5, .int .u8 255] 5)).alloc (.cells #[.int .u64 1, .int .u64 0, .int .u64 0, .int .u64 1] 35)) rfl rfl (by first | (simp; done) | (simp; omega))).below (w' := (((v7.alloc (.cells #[.int .u8 5, .int .u8 255] 5)).alloc (.cells #[.int .u64 1, .int .u64 0, .int .u64 0, .int .u64 1] 35)).alloc (.cells #[.bool true, .bool false, .bool false, .bool true] 4))) ((Below.refl _ _) : Below (((v7.alloc (.cells #[.int .u8 5, .int .u8 255] 5)).alloc (.cells #[.int .u64 1, .int .u64 0, .int .u64 0, .int .u64 1] 35)).alloc (.cells #[.bool true, .bool false, .bool false, .bool true] 4)).heap.size (((v7.alloc (.cells #[.int .u8 5, .int .u8 255] 5)).alloc (.cells #[.int .u64 1, .int .u64 0, .int .u64 0, .int .u64 1] 35)).alloc (.cells #[.bool true, .bool false, .bool false, .bool true] 4)) (((v7.alloc (.cells #[.int .u8 5, .int .u8 255] 5)).alloc (.cells #[.int .u64 1, .int .u64 0, .int .u64 0, .int .u64 1] 35)).alloc (.cells #[.bool true, .bool false, .bool false, .bool true] 4))) (Nat.le_refl _)
 have hbel := HB7.out.trans (hbi.mono HB7.out.size)
 have hc := reads_yes (some ⟨v7.heap.size, 0, none⟩) (some ⟨(v7.heap.size + 1), 0, none⟩) (some ⟨(v7.heap.size + 2), 0, none⟩) 2 4 4 [5, 255] [1, 0, 0, 1] [true, false, false, true] _ (HU.out.below hbel (Nat.le_refl _)) (HT.out.below hbel (Nat.le_refl _)) hl0 hl1 hl2 (by unfold B.Bytes; decide) B.reads2_run
 have HBN := Lib.hid hbel
 refine hc.mono ?_
 rintro e v8 ⟨rfl, hbz⟩
 have HB8 := Lib.hid (HBN.out.trans (hbz.mono HBN.out.size))
 clear hbi hbel hc hbz HBN HB7 hl0 hl1 hl2
 go_upto_region 7 with fail
 have hrow := RC.new #[.int .i64 0, .int .i64 0, .int .u32 0, .bool false, .string ⟨#[78]⟩, .int .i64 8, .string ⟨#[65]⟩, .slice none 0 0] 27 v8 (n := 8) rfl rfl
 have hbx : Below v8.heap.size v8 (v8.alloc (.cells #[.int .i64 0, .int .i64 0, .int .u32 0, .bool false, .string ⟨#[78]⟩, .int .i64 8, .string ⟨#[65]⟩, .slice none 0 0] 27)) := (Below.refl _ _).alloc (Nat.le_refl _) _
 obtain ⟨x1, hx⟩ : ∃ x, v8.alloc (.cells #[.int .i64 0, .int .i64 0, .int .u32 0, .bool false, .string ⟨#[78]⟩, .int .i64 8, .string ⟨#[65]⟩, .slice none 0 0] 27) = x := ⟨_, rfl⟩
 obtain ⟨X1, hX⟩ : ∃ X, v8.heap.size = X := ⟨_, rfl⟩
 rw [hx] at hrow hbx
 rw [hX] at hrow
 try rw [hx]
 try rw [hX]
 have hrr := RC.range hrow
 have hbel := HB8.out.trans (hbx.mono HB8.out.size)
 have HBX := Lib.hid hbel
 clear hx hX hrow hbx hbel
 go_wp2_with (refine wpList_load_mid (by rfl) 27 _ (by rfl) X1 0 (by rfl) (#[.int .i64 0, .int .i64 0, .int .u32 0, .bool false, .string ⟨#[78]⟩, .int .i64 8, .string ⟨#[65]⟩, .slice none 0 0] : Array Value).toList _ hrr Tryz.underlying27 (by rfl) (by kernel_rfl) ?_)
 have hA := listAt_new (([1, 2, 3, 4, 5, 6, 7, 8] : List Nat).map u8V) #[.int .u8 1, .int .u8 2, .int .u8 3, .int .u8 4, .int .u8 5, .int .u8 6, .int .u8 7, .int .u8 8] 8 x1.heap.size 5 x1 rfl rfl rfl
 have hbi : Below x1.heap.size x1 (x1.alloc (.cells #[.int .u8 1, .int .u8 2, .int .u8 3, .int .u8 4, .int .u8 5, .int .u8 6, .int .u8 7, .int .u8 8] 5)) := (Below.refl _ _).alloc (Nat.le_refl _) _
 have hV : ListAt (x1.alloc (.cells #[.int .u8 1, .int .u8 2, .int .u8 3, .int .u8 4, .int .u8 5, .int .u8 6, .int .u8 7, .int .u8 8] 5)) none 0 (([] : List Nat).map u64V) := ListAt.ofOwn (One.OwnV.nil 35 (x1.alloc (.cells #[.int .u8 1, .int .u8 2, .int .u8 3, .int .u8 4, .int .u8 5, .int .u8 6, .int .u8 7, .int .u8 8] 5)) 0).own
 have hs : SigsAt (x1.alloc (.cells #[.int .u8 1, .int .u8 2, .int .u8 3, .int .u8 4, .int .u8 5, .int .u8 6, .int .u8 7, .int .u8 8] 5)) none 0 B.nM.sigs := (OwnSg.nil (x1.alloc (.cells #[.int .u8 1, .int .u8 2, .int .u8 3, .int .u8 4, .int .u8 5, .int .u8 6, .int .u8 7, .int .u8 8] 5)) 0).sigsAt
 have hbel := HBX.out.trans (hbi.mono HBX.out.size)
 have hpk := packed_ok B.nM none (some ⟨x1.heap.size, 0, none⟩) none 0 0 8 8 0 0 [1, 2, 3, 4, 5, 6, 7, 8] [] (x1.alloc (.cells #[.int .u8 1, .int .u8 2, .int .u8 3, .int .u8 4, .int .u8 5, .int .u8 6, .int .u8 7, .int .u8 8] 5)) wf_n hs (HU.out.below hbel (Nat.le_refl _)) (HT.out.below hbel (Nat.le_refl _)) B.nM_no rfl rfl hA hV (by unfold B.Bytes; decide) (by unfold B.Words; decide)
 obtain ⟨r1, hr⟩ : ∃ r, B.run B.nM.packI [] 0 (B.start [1, 2, 3, 4, 5, 6, 7, 8] B.nM.sigs.length) = r := ⟨_, rfl⟩
 have hex : r1.failed = none ∧ r1.st.pay = [0, 0, 0, 0, 0, 0, 0, 0] := by
  rw [← hr]
  exact B.nM_run
 rw [hr] at hpk
 replace hpk := hpk.mono fun e w' h => (RanTold.atL (h.ok hex.1) (np := 8) (by rw [hex.2]; rfl) rfl rfl)
 rw [hex.2] at hpk
 have HBZ := Lib.hid hbel
 clear hr hex hA hV hs hbi hbel hrr HBX
 go_upto_region 8 with (go_at_call 11; refine hpk.mono ?_; rintro e y1 ⟨a1, c1, a2, c2, a3, c3, rfl, o1, _, _, hb⟩)
 have hbn : Below y1.heap.size y1 (y1.alloc (.cells #[.bool false, .int .i64 0, .slice a1 8 c1, .slice a2 r1.st.out.length c2, .slice a3 r1.st.has.length c3, .int .i64 (r1.steps : Int)] 44)) := (Below.refl _ _).alloc (Nat.le_refl _) _
 have hbox := RC.new #[.bool false, .int .i64 0, .slice a1 8 c1, .slice a2 r1.st.out.length c2, .slice a3 r1.st.has.length c3, .int .i64 (r1.steps : Int)] 44 y1 (n := 6) rfl rfl
 have hlist := o1.kept hbn
 have hbzn := hb.trans (hbn.mono hb.size)
 obtain ⟨Y1, hY⟩ : ∃ Y, y1.heap.size = Y := ⟨_, rfl⟩
 obtain ⟨w1, hd⟩ : ∃ d, y1.alloc (.cells #[.bool false, .int .i64 0, .slice a1 8 c1, .slice a2 r1.st.out.length c2, .slice a3 r1.st.has.length c3, .int .i64 (r1.steps : Int)] 44) = d := ⟨_, rfl⟩
 rw [hd] at hbn hbox hlist hbzn
 rw [hY] at hbox
 try rw [hd]
 try rw [hY]
 have HBP1 := Lib.hid (HBZ.out.trans (hbzn.mono HBZ.out.size))
 have HBOX1 := Lib.hid hbox
 have HLI1 := Lib.hid hlist
 clear hd hY hbn hbox hlist hbzn o1 hb hpk HBZ
 go_upto_region 9 with fail
 have hrow := RC.new #[.int .i64 0, .int .i64 0, .int .u32 0, .bool false, .string ⟨#[90]⟩, .int .i64 0, .string ⟨#[65]⟩, .slice none 0 0] 27 w1 (n := 8) rfl rfl
 have hbx : Below w1.heap.size w1 (w1.alloc (.cells #[.int .i64 0, .int .i64 0, .int .u32 0, .bool false, .string ⟨#[90]⟩, .int .i64 0, .string ⟨#[65]⟩, .slice none 0 0] 27)) := (Below.refl _ _).alloc (Nat.le_refl _) _
 obtain ⟨x2, hx⟩ : ∃ x, w1.alloc (.cells #[.int .i64 0, .int .i64 0, .int .u32 0, .bool false, .string ⟨#[90]⟩, .int .i64 0, .string ⟨#[65]⟩, .slice none 0 0] 27) = x := ⟨_, rfl⟩
 obtain ⟨X2, hX⟩ : ∃ X, w1.heap.size = X := ⟨_, rfl⟩
 rw [hx] at hrow hbx
 rw [hX] at hrow
 try rw [hx]
 try rw [hX]
 have hrr := RC.range hrow
 have hbel := HBP1.out.trans (hbx.mono HBP1.out.size)
 have HBOX1_1 := Lib.hid (HBOX1.out.below hbx HBOX1.out.blk)
 have HLI1_1 := Lib.hid (HLI1.out.kept hbx)
 have HBX := Lib.hid hbel
 clear hx hX hrow hbx hbel
 go_wp2_with (refine wpList_load_mid (by rfl) 27 _ (by rfl) X2 0 (by rfl) (#[.int .i64 0, .int .i64 0, .int .u32 0, .bool false, .string ⟨#[90]⟩, .int .i64 0, .string ⟨#[65]⟩, .slice none 0 0] : Array Value).toList _ hrr Tryz.underlying27 (by rfl) (by kernel_rfl) ?_)
 have hA : ListAt x2 none 0 (([] : List Nat).map u8V) := ListAt.ofOwn (One.OwnV.nil 5 x2 0).own
 have hbi : Below x2.heap.size x2 x2 := Below.refl _ _
 have hV : ListAt x2 none 0 (([] : List Nat).map u64V) := ListAt.ofOwn (One.OwnV.nil 35 x2 0).own
 have hs : SigsAt x2 none 0 B.zM.sigs := (OwnSg.nil x2 0).sigsAt
 have hbel := HBX.out.trans (hbi.mono HBX.out.size)
 have hpk := packed_ok B.zM none none none 0 0 0 0 0 0 [] [] x2 wf_z hs (HU.out.below hbel (Nat.le_refl _)) (HT.out.below hbel (Nat.le_refl _)) B.zM_no rfl rfl hA hV (by unfold B.Bytes; decide) (by unfold B.Words; decide)
 obtain ⟨r2, hr⟩ : ∃ r, B.run B.zM.packI [] 0 (B.start [] B.zM.sigs.length) = r := ⟨_, rfl⟩
 have hex : r2.failed = none ∧ r2.st.pay = [] := by
  rw [← hr]
  exact B.zM_run
 rw [hr] at hpk
 replace hpk := hpk.mono fun e w' h => (RanTold.atL (h.ok hex.1) (np := 0) (by rw [hex.2]; rfl) rfl rfl)
 rw [hex.2] at hpk
 have HBOX1_2 := Lib.hid (HBOX1_1.out.below hbi HBOX1_1.out.blk)
 have HLI1_2 := Lib.hid (HLI1_1.out.kept hbi)
 have HBZ := Lib.hid hbel
 clear hr hex hA hV hs hbi hbel hrr HBX
 go_upto_region 10 with (go_at_call 11; refine hpk.mono ?_; rintro e y2 ⟨g1, h1, g2, h2, g3, h3, rfl, o1, _, _, hb⟩)
 have hbn : Below y2.heap.size y2 (y2.alloc (.cells #[.bool false, .int .i64 0, .slice g1 0 h1, .slice g2 r2.st.out.length h2, .slice g3 r2.st.has.length h3, .int .i64 (r2.steps : Int)] 44)) := (Below.refl _ _).alloc (Nat.le_refl _) _
 have hbox := RC.new #[.bool false, .int .i64 0, .slice g1 0 h1, .slice g2 r2.st.out.length h2, .slice g3 r2.st.has.length h3, .int .i64 (r2.steps : Int)] 44 y2 (n := 6) rfl rfl
 have hlist := o1.kept hbn
 have hbzn := hb.trans (hbn.mono hb.size)
 obtain ⟨Y2, hY⟩ : ∃ Y, y2.heap.size = Y := ⟨_, rfl⟩
 obtain ⟨w2, hd⟩ : ∃ d, y2.alloc (.cells #[.bool false, .int .i64 0, .slice g1 0 h1, .slice g2 r2.st.out.length h2, .slice g3 r2.st.has.length h3, .int .i64 (r2.steps : Int)] 44) = d := ⟨_, rfl⟩
 rw [hd] at hbn hbox hlist hbzn
 rw [hY] at hbox
 try rw [hd]
 try rw [hY]
 have HBP2 := Lib.hid (HBZ.out.trans (hbzn.mono HBZ.out.size))
 have HBOX2 := Lib.hid hbox
 have HLI2 := Lib.hid hlist
 have HBOX1_3 := Lib.hid (HBOX1_2.out.below hbzn HBOX1_2.out.blk)
 have HLI1_3 := Lib.hid (HLI1_2.out.kept hbzn)
 clear hd hY hbn hbox hlist hbzn o1 hb hpk HBZ
 have c30 : w2.cell? ⟨Y1, 0, none⟩ = some (.bool false) := HBOX1_3.out.cell (j := 0) rfl
 have c32 : w2.cell? ⟨Y1, 2, none⟩ = some (.slice a1 8 c1) := HBOX1_3.out.cell (j := 2) rfl
 have hba : Below w2.heap.size w2 (w2.alloc (.cells #[.int .u8 0, .int .u8 0, .int .u8 0, .int .u8 0, .int .u8 0, .int .u8 0, .int .u8 0, .int .u8 0] 5)) := (Below.refl _ _).alloc (Nat.le_refl _) _
 have hsb := sameBytes_any a1 (some ⟨w2.heap.size, 0, none⟩) 8 c1 8 8 [0, 0, 0, 0, 0, 0, 0, 0] [0, 0, 0, 0, 0, 0, 0, 0] (w2.alloc (.cells #[.int .u8 0, .int .u8 0, .int .u8 0, .int .u8 0, .int .u8 0, .int .u8 0, .int .u8 0, .int .u8 0] 5)) (ListAt.ofOwn (HLI1_3.out.kept hba).own) (listAt_new (([0, 0, 0, 0, 0, 0, 0, 0] : List Nat).map u8V) #[.int .u8 0, .int .u8 0, .int .u8 0, .int .u8 0, .int .u8 0, .int .u8 0, .int .u8 0, .int .u8 0] 8 w2.heap.size 5 w2 rfl rfl rfl) (by omega)
 rw [show decide (([0, 0, 0, 0, 0, 0, 0, 0] : List Nat) = [0, 0, 0, 0, 0, 0, 0, 0]) = true from decide_eq_true rfl] at hsb
 have HBA := Lib.hid hba
 clear hba
 go_wp2_with fail
 refine hsb.mono ?_
 rintro e w3 ⟨rfl, hb3⟩
 have hb3' := HBA.out.trans (hb3.mono HBA.out.size)
 have HB3 := Lib.hid (HBP2.out.trans (hb3'.mono HBP2.out.size))
 have hbox3 := HBOX2.out.below hb3' HBOX2.out.blk
 have c60 : w3.cell? ⟨Y2, 0, none⟩ = some (.bool false) := hbox3.cell (j := 0) rfl
 have c62 : w3.cell? ⟨Y2, 2, none⟩ = some (.slice g1 0 h1) := hbox3.cell (j := 2) rfl
 clear hb3 hb3' hbox3 HBA hsb c30 c32
 go_upto_region 12 with fail
 have hwide := wide_any w3 (HU.out.below HB3.out (Nat.le_refl _)) (HT.out.below HB3.out (Nat.le_refl _))
 go_wp2_with fail
 refine hwide.mono ?_
 rintro e w4 ⟨rfl, hb4⟩
 have HB4 := Lib.hid (HB3.out.trans (hb4.mono HB3.out.size))
 have href := refused_any w4 (HU.out.below HB4.out (Nat.le_refl _))
 clear hb4 hwide c60 c62
 go_wp2_with fail
 refine href.mono ?_
 rintro e w5 ⟨rfl, hb5⟩
 have HB5 := Lib.hid (HB4.out.trans (hb5.mono HB4.out.size))
 clear hb5 href
 go_wp2_with fail
 refine (num_err 92 (.agg #[.int .i64 17, .int .i64 0, .int .i64 0]) 17 (.fault _ _ _) (by omega) (by omega) w5).mono ?_
 rintro e w6 ⟨rfl, hb6⟩
 have HB6 := Lib.hid (HB5.out.trans (hb6.mono HB5.out.size))
 clear hb6
 go_wp2_with fail
 go_ret
 exact ⟨rfl, HB6.out⟩

end Code
end Go.Proofs.YtdpjbnjlognmeaaGreatDoor
