/- Package code: the method blend of the table. -/
import Derived.Test.YtegjeincncccaaaGreatDoorCodeF
namespace Go.Proofs.YtegjeincncccaaaGreatDoor
open Go.RowKit

namespace Code

attribute [local go_sem ↓] Go.wp_at_zero Go.wp_at_succ

/-- the table's cells, and those of the number's field -/
def TabIn (C : Array Value) (vs : List Value) (B : Nat) (w : World) : Prop := w.rangeAt B 0 C.toList ∧ w.rangeAt B 15 vs

theorem TabIn.below {C : Array Value} {vs : List Value} {B N : Nat} {w w' : World} (h : TabIn C vs B w) (hb : Below N w w') (hB : B < N) : TabIn C vs B w' := ⟨range_below h.1 hb hB, range_below h.2 hb hB⟩

theorem tabIn_new (C : Array Value) (vs : List Value) (w : World) (hv : ∀ j v, vs[j]? = some v → C[15 + j]? = some v) (t : TypeId) : TabIn C vs w.heap.size (w.alloc (.cells C t)) := by
 have hb := heap_alloc_new w (.cells C t)
 refine ⟨?_, fun j v h => ?_⟩
 ·have := World.rangeAt_of_block hb 0 C.size
  simpa using this
 ·rw [cell_of_row _ _ _ _ _ _ hb]; exact hv j v h

set_option maxRecDepth 100000 in
set_option maxHeartbeats 3200000 in
theorem blendM_core (C : Array Value) (v15 v16 v17 v18 v19 : Value) (w : World) (hC : C.size = 20) (hv : ∀ j v, [v15, v16, v17, v18, v19][j]? = some v → C[15 + j]? = some v)
    (hT : TableAt w (.agg C)) (hF4 : FieldAt w .number v15 v16 v17 v18 v19) :
    Calls Tryz.prog 232 #[.agg C] w fun e w' => ∃ ao cap, e = .returned (.slice ao 4 cap) ∧ FieldsAt w' ao 4 [reg, .small 1 0 7, .bytes, .number] ∧ Below w.heap.size w w' := by
 have HT := Lib.hid hT
 have o4 := hF4.one
 have HF := Lib.hid hF4
 have hS0 := tabIn_new C [v15, v16, v17, v18, v19] w hv 314
 have hi20 : (Tryz.prog.info? 314).map (·.size) = some C.toList.length := by rw [Array.length_toList, hC]; kernel_rfl
 have hi5 : (Tryz.prog.info? 269).map (·.size) = some [v15, v16, v17, v18, v19].length := by kernel_rfl
 have HI20 := Lib.hid hi20
 have HI5 := Lib.hid hi5
 have HS0 := Lib.hid hS0
 clear hT hF4 hv hC hS0 hi20 hi5
 go_enter Tryz.func232, Tryz.ntmps232
 go_wp2_with fail
 refine wp_region_held_drew (S := TabIn C [v15, v16, v17, v18, v19] w.heap.size) (by kernel_rfl) (TabIn.below (N := w.heap.size + 1) HS0.out (Below.refl _ _).drew (by omega)) (fun hS1 => ?_)
 refine wpAnyH_take (i := 0) (v := .agg C) rfl (by kernel_rfl) (by kernel_rfl) (by kernel_rfl) (fun _ _ _ h => h) (yieldsIf_load_mid (by rfl) _ _ rfl w.heap.size 0 (by rfl) C.toList _ (fun _ h => h.1) Tryz.underlying314 rfl HI20.out) hS1 ?_
 simp only [Act.put, List.setIfInBounds_toArray]
 refine wpAnyH_take (i := 2) (v := .pointer (some ⟨w.heap.size, 15, none⟩)) rfl (by kernel_rfl) (by kernel_rfl) (by kernel_rfl) (fun _ _ _ h => h) (Or.inl ⟨by rfl, fun w' _ => by go_simp⟩) hS1 ?_
 simp only [Act.put]
 refine wpAnyH_take (i := 3) (v := .agg #[v15, v16, v17, v18, v19]) rfl (by kernel_rfl) (by kernel_rfl) (by kernel_rfl) (fun _ _ _ h => h) (yieldsIf_load_mid (by rfl) _ _ rfl w.heap.size 15 (by rfl) [v15, v16, v17, v18, v19] _ (fun _ h => h.2) Tryz.underlying269 rfl HI5.out) hS1 ?_
 simp only [Act.put]
 refine wpAnyH_ready (rs := [1, 4]) (by kernel_rfl) (by simp) ?_
 refine AllReadyH.cons rfl (fun K hK => ?_) (AllReadyH.cons rfl (fun K hK => ?_) AllReadyH.nil)
 ·go_simp
  refine (moveM_own _ _ (HT.out.below (((Below.refl _ _).alloc (Nat.le_refl _) _).drew) (Nat.le_refl _))).mono ?_
  rintro e w1 ⟨ao, vs, rfl, hown, hq, hb1⟩
  have hs0 : w.heap.size ≤ (w.alloc (.cells C 314)).drew.heap.size := by simp
  have hl := below_into hb1 hs0
  have hs1 := hl.size
  have hs2 := hb1.size
  refine hK.out _ _ (hS1.below hb1 (by simp)) (fun hS2 => ?_)
  clear hK K
  refine wpAnyH_ready (rs := [4]) (by kernel_rfl) (by simp) ?_
  refine AllReadyH.cons rfl (fun K hK => ?_) AllReadyH.nil
  go_simp
  refine hK.out _ _ (hS2.below (N := w.heap.size + 1) ((Below.refl _ _).alloc (by simp at hs2; omega) _) (by omega)) (fun hS3 => ?_)
  clear hK K
  refine wpAnyH_ready (rs := [5]) (by kernel_rfl) (by simp) ?_
  refine AllReadyH.cons rfl (fun K hK => ?_) AllReadyH.nil
  refine blend_app (w := w) (W := (w1.alloc (.cells #[v15, v16, v17, v18, v19] 269))) (by rfl) _ _ (by rfl) (by rfl) (by rfl) (hown.alloc _) (hq.below ((Below.refl _ _).alloc (Nat.le_refl _) _) (Nat.le_refl _)) (heap_alloc_new w1 _) HF.out (Nat.le_trans hs2 (by simp)) hs0 (hl.alloc hs1 _) ?_
  intro ao' cap' w2 hFs hL hb2
  refine hK.out _ _ (hS3.below hb2 (by simp)) (fun hS4 => ?_)
  clear hK K
  refine wpAnyH_take (i := 6) (v := .slice ao' 4 cap') rfl (by kernel_rfl) (by kernel_rfl) (by kernel_rfl) (fun _ _ _ h => h) (Or.inl ⟨by rfl, fun w' _ => by rfl⟩) hS4 ?_
  refine wpAnyH_done (by kernel_rfl) ?_ _
  go_wp2
  go_ret
  exact ⟨_, _, rfl, hFs, hL⟩
 ·go_simp
  have hs0 : w.heap.size ≤ ((w.alloc (.cells C 314)).drew.alloc (.cells #[v15, v16, v17, v18, v19] 269)).heap.size := by simp; omega
  refine hK.out _ _ (hS1.below (N := w.heap.size + 1) ((Below.refl _ _).alloc (by simp) _) (by omega)) (fun hS2 => ?_)
  clear hK K
  refine wpAnyH_ready (rs := [1]) (by kernel_rfl) (by simp) ?_
  refine AllReadyH.cons rfl (fun K hK => ?_) AllReadyH.nil
  go_simp
  refine (moveM_own _ _ (HT.out.below ((((Below.refl _ _).alloc (Nat.le_refl _) _).alloc (by simp) _).drew) (Nat.le_refl _))).mono ?_
  rintro e w1 ⟨ao, vs, rfl, hown, hq, hb1⟩
  have hbk := (hb1.block (w.heap.size + 1) (by simp)).trans (two_new w _ _)
  have hl := below_two hb1 hs0
  have hs1 := hl.size
  have hs2 := hb1.size
  refine hK.out _ _ (hS2.below hb1 (by simp; omega)) (fun hS3 => ?_)
  clear hK K
  refine wpAnyH_ready (rs := [5]) (by kernel_rfl) (by simp) ?_
  refine AllReadyH.cons rfl (fun K hK => ?_) AllReadyH.nil
  refine blend_app (w := w) (W := w1) (by rfl) _ _ (by rfl) (by rfl) (by rfl) hown hq hbk HF.out hs2 hs0 hl ?_
  intro ao' cap' w2 hFs hL hb2
  refine hK.out _ _ (hS3.below hb2 (by simp; omega)) (fun hS4 => ?_)
  clear hK K
  refine wpAnyH_take (i := 6) (v := .slice ao' 4 cap') rfl (by kernel_rfl) (by kernel_rfl) (by kernel_rfl) (fun _ _ _ h => h) (Or.inl ⟨by rfl, fun w' _ => by rfl⟩) hS4 ?_
  refine wpAnyH_done (by kernel_rfl) ?_ _
  go_wp2
  go_ret
  exact ⟨_, _, rfl, hFs, hL⟩

theorem blendM_any (T : Value) (w : World) (hT : TableAt w T) : Calls Tryz.prog 232 #[T] w fun e w' => ∃ ao cap, e = .returned (.slice ao 4 cap) ∧ FieldsAt w' ao 4 [reg, .small 1 0 7, .bytes, .number] ∧ Below w.heap.size w w' := by
 have HT := Lib.hid hT
 obtain ⟨v0, v1, v2, v3, v4, v5, v6, v7, v8, v9, v10, v11, v12, v13, v14, v15, v16, v17, v18, v19, rfl, hF1, hF2, hF3, hF4⟩ := hT
 refine blendM_core _ v15 v16 v17 v18 v19 w rfl ?_ HT.out hF4
 intro j v hj
 have hlt : j < 5 := by have := (List.getElem?_eq_some_iff.1 hj).1; simpa using this
 rcases (show j = 0 ∨ j = 1 ∨ j = 2 ∨ j = 3 ∨ j = 4 by omega) with rfl | rfl | rfl | rfl | rfl <;> exact hj

end Code
end Go.Proofs.YtegjeincncccaaaGreatDoor
