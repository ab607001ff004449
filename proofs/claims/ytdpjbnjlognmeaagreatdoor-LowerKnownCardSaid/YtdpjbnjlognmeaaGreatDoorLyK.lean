/- Package ref0: a copy of a message. -/
import Derived.Test.YtdpjbnjlognmeaaGreatDoorLyJ
namespace Go.Proofs.YtdpjbnjlognmeaaGreatDoor
open Go.RowKit

namespace Code

attribute [local go_sem ↓] Go.wp_at_zero Go.wp_at_succ

theorem OwnSg.grownT {w w' : World} {base n cap X : Nat} {ao : Option Addr} {L : List (B.Sig × Value)} {C : Array Value} {T : TypeId} (h : OwnSg w base ao n cap L) (hX : w.heap[X]? = some (.cells C T (0, 0))) (h1 : 40 ≠ T) (h2 : 9 ≠ T) (hg : w.grownBy w' (some X)) : OwnSg w' base ao n cap L := by
 refine h.keep (fun g e => ?_) (fun b C' hC' => ?_)
 ·rcases h.form with ⟨e0, _⟩ | ⟨g', e1, _, hlt, C', hC'⟩
  ·rw [e0] at e; cases e
  ·rw [e1] at e
   injection e with e
   injection e with e _ _
   subst e
   refine hg.block _ hlt (fun e => ?_)
   obtain rfl := Option.some.inj e
   rw [hC'] at hX
   injection hX with hX
   injection hX with _ hT _
   exact h1 hT
 ·refine hg.block _ (lt_of_block hC') (fun e => ?_)
  obtain rfl := Option.some.inj e
  rw [hC'] at hX
  injection hX with hX
  injection hX with _ hT _
  exact h2 hT

theorem msgC_to (m : B.Msg) (tv tv' : Value) : ∀ j, j < 8 → (msgC m tv').getD j undef = if j = 7 then tv' else (msgC m tv).getD j undef := by
 intro j hj
 match j, hj with
 | 0, _ => rfl
 | 1, _ => rfl
 | 2, _ => rfl
 | 3, _ => rfl
 | 4, _ => rfl
 | 5, _ => rfl
 | 6, _ => rfl
 | 7, _ => rfl
 | n + 8, h => omega

/-- a message, its signals of the call's own -/
def MsOut (m : B.Msg) (w : World) (e : Ending) (w' : World) : Prop := ∃ ao cap L, e = .returned (.agg (msgC m (.slice ao m.sigs.length cap))) ∧ OwnSg w' w.heap.size ao m.sigs.length cap L ∧ L.map (·.1) = m.sigs ∧ Below w.heap.size w w'

set_option maxRecDepth 100000 in
set_option maxHeartbeats 6400000 in
theorem copyMessage_any (m : B.Msg) (a : Option Addr) (n cap : Nat) (w : World) (hl : SigsAt w a n m.sigs) (hn : n ≤ 64) (hto : ∀ s ∈ m.sigs, s.dest.length ≤ 64) :
    Calls Tryz.prog 9 #[.agg (msgC m (.slice a n cap))] w (MsOut m w) := by
 have hrow := RC.new (msgC m (.slice a n cap)) 27 w (n := 8) rfl rfl
 have hbel : Below w.heap.size w (w.alloc (.cells (msgC m (.slice a n cap)) 27)) := (Below.refl _ _).alloc (Nat.le_refl _) _
 obtain ⟨w1, hw1⟩ : ∃ w1, w.alloc (.cells (msgC m (.slice a n cap)) 27) = w1 := ⟨_, rfl⟩
 rw [hw1] at hrow hbel
 have HL := Lib.hid (hl.below hbel (Nat.le_refl _))
 have HTO := Lib.hid hto
 have HNL := Lib.hid hl.len
 have HROW := Lib.hid hrow
 have HB := Lib.hid hbel
 have HZ : Hid (w.heap.size < w1.heap.size) := Lib.hid hrow.blk
 clear hl hto hrow hbel
 go_enter Tryz.func9, Tryz.ntmps9
 go_upto_region 1 with fail
 try rw [hw1]
 clear hw1
 generalize hw2 : World.alloc _ _ = w2
 have hb2 : Below w1.heap.size w1 w2 := by rw [← hw2]; exact (Below.refl _ _).alloc (Nat.le_refl _) _
 have ht2 : w2.there w1.heap.size 0 8 := by rw [← hw2]; exact there_alloc _ _ _ (by rfl)
 have hm2 : ∃ C, w2.heap[w1.heap.size]? = some (.cells C 27 (0, 0)) := ⟨_, by rw [← hw2]; exact heap_alloc_new _ _⟩
 have hz2 : w1.heap.size < w2.heap.size := by rw [← hw2]; simp
 obtain ⟨R, hR⟩ : ∃ R, w1.heap.size = R := ⟨_, rfl⟩
 rw [hR] at ht2 hm2 hz2 ⊢
 have hrr2 := RC.range (HROW.out.below hb2 HROW.out.blk)
 have HB2 := Lib.hid hb2
 have HRE := Lib.hid hR
 have HT2 := Lib.hid ht2
 have HM2 := Lib.hid hm2
 clear hw2 hb2 ht2 hm2 hR
 go_upto_region 2 with (first
  | refine wpList_load_mid (by rfl) 27 _ (by rfl) w.heap.size 0 (by rfl) (msgC m (.slice a n cap)).toList _ hrr2 Tryz.underlying27 (by rfl) (by kernel_rfl) ?_
  | (refine wpList_store_mid (by rfl) 27 _ _ (by rfl) w2.heap.size 0 (msgC m (.slice a n cap)) (by rfl) (by rfl) (there_alloc _ _ _ (by rfl)) (by kernel_rfl) (by simp [msgC, Value.oneCell']) ?_; generalize hw3 : World.setCells _ _ _ _ = w3))
 have hb3 : Below w2.heap.size w2 w3 := by
  rw [← hw3]
  exact ((Below.refl _ _).alloc (Nat.le_refl _) _).grown (grownBy_setCells _ _ _ _) (by simp) (fun k hk => by cases hk; exact Nat.le_refl _)
 have hrow3 : RC w3 w2.heap.size 27 8 (msgC m (.slice a n cap)) := by rw [← hw3]; exact RC.over _ _ _ _ (by rfl) rfl
 obtain ⟨Y, hY⟩ : ∃ Y, w2.heap.size = Y := ⟨_, rfl⟩
 have hb13 : Below w1.heap.size w1 w3 := HB2.out.trans (hb3.mono HB2.out.size)
 have hRY : R < Y := by rw [← hY]; exact hz2
 have k7 : w3.cell? ⟨w.heap.size, 7, none⟩ = some (.slice a n cap) := (HROW.out.below hb13 HROW.out.blk).cell (j := 7) rfl
 have hcp := copySignals_any a n cap m.sigs w3 (HL.out.below hb13 (Nat.le_refl _)) hn HTO.out
 have HT3 : Hid (w3.there R 0 8) := Lib.hid (fun j hj => by
  have h := HT2.out j hj
  have hblk := hb3.block R hz2
  exact ⟨by rw [World.cell?_of_block (a := ⟨R, 0 + j, none⟩) hblk]; exact h.1, by rw [World.frozen?_of_block (a := ⟨R, 0 + j, none⟩) hblk]; exact h.2⟩)
 have HM3 : Hid (∃ C, w3.heap[R]? = some (.cells C 27 (0, 0))) := Lib.hid (by obtain ⟨C, hC⟩ := HM2.out; exact ⟨C, (hb3.block R hz2).trans hC⟩)
 have HB13 := Lib.hid hb13
 have HR3 := Lib.hid (show R < w3.heap.size from Nat.lt_of_lt_of_le hz2 hb3.size)
 rw [hY] at hrow3 ⊢
 have HROW3 := Lib.hid hrow3
 clear hw3 hb3 hrow3 hY hb13 hrr2 HB2 HT2 HM2
 go_upto_region 3 with (go_at_call 34; refine hcp.mono ?_; rintro e w4 ⟨ta, tc, L, rfl, hto4, hLm, hb4⟩; have j7 := (HROW3.out.below hb4 HROW3.out.blk).cell (j := 7) rfl; have f7 := CellsAt.free (HROW3.out.below hb4 HROW3.out.blk).1 7)
 have hrow5 : RC (w4.setCell ⟨Y, 7, none⟩ (.slice ta m.sigs.length tc)) Y 27 8 (msgC m (.slice ta m.sigs.length tc)) := (HROW3.out.below hb4 HROW3.out.blk).putL 7 _ rfl (msgC_to m _ _)
 obtain ⟨w5, hw5⟩ : ∃ w5, w4.setCell ⟨Y, 7, none⟩ (.slice ta m.sigs.length tc) = w5 := ⟨_, rfl⟩
 have hb45 : w4.grownBy w5 (some Y) := by rw [← hw5]; exact grownBy_setCells Y [.slice ta m.sigs.length tc] 7 w4
 rw [hw5] at hrow5
 try rw [hw5]
 have hR3 := HR3.out
 have hR4 : R < w4.heap.size := Nat.lt_of_lt_of_le hR3 hb4.size
 have hYb : ∃ C, w4.heap[Y]? = some (.cells C 27 (0, 0)) := by
  obtain ⟨C, hC, _⟩ := (HROW3.out.below hb4 HROW3.out.blk).1
  exact ⟨C, hC⟩
 have hto5 : OwnSg w5 w3.heap.size ta m.sigs.length tc L := by
  obtain ⟨C', hC'⟩ := hYb
  exact hto4.grownT hC' (by decide) (by decide) hb45
 have hRb5 : w5.heap[R]? = w3.heap[R]? := (hb45.block R hR4 (fun e => by have := Option.some.inj e; omega)).trans (hb4.block R hR3)
 have HT5 : Hid (w5.there R 0 8) := Lib.hid (fun j hj => by
  have h := HT3.out j hj
  exact ⟨by rw [World.cell?_of_block (a := ⟨R, 0 + j, none⟩) hRb5]; exact h.1, by rw [World.frozen?_of_block (a := ⟨R, 0 + j, none⟩) hRb5]; exact h.2⟩)
 have HM5 : Hid (∃ C, w5.heap[R]? = some (.cells C 27 (0, 0))) := Lib.hid (by obtain ⟨C, hC⟩ := HM3.out; exact ⟨C, hRb5.trans hC⟩)
 have hYw : w.heap.size ≤ Y := by have := HZ.out; have := HRE.out; omega
 have HB5 : Hid (Below w.heap.size w w5) := Lib.hid ((HB.out.trans ((HB13.out.mono HB.out.size).trans (hb4.mono (Nat.le_trans HB.out.size HB13.out.size)))).grown hb45 (Nat.le_trans HB.out.size (Nat.le_trans HB13.out.size hb4.size)) (fun k hk => by cases hk; exact hYw))
 have HTO5 := Lib.hid hto5
 have HLM := Lib.hid hLm
 have HW3 : Hid (w.heap.size ≤ w3.heap.size) := Lib.hid (Nat.le_trans HB.out.size HB13.out.size)
 have hrr5 := RC.range hrow5
 have HRW : Hid (w.heap.size ≤ R) := Lib.hid (by have := HZ.out; have := HRE.out; omega)
 clear hw5 hb45 hrow5 hR3 hR4 hYb hto5 hRb5 hYw hto4 hb4 hcp j7 f7 k7 hLm
 go_wp2_with (first
  | refine wpList_load_mid (by rfl) 27 _ (by rfl) Y 0 (by rfl) (msgC m (.slice ta m.sigs.length tc)).toList _ hrr5 Tryz.underlying27 (by rfl) (by kernel_rfl) ?_
  | (refine wpList_store_mid (by rfl) 27 _ _ (by rfl) R 0 (msgC m (.slice ta m.sigs.length tc)) (by rfl) (by rfl) HT5.out (by kernel_rfl) (by simp [msgC, Value.oneCell']) ?_; generalize hw6 : World.setCells _ _ _ _ = w6))
 have hgr := grownBy_setCells R (msgC m (.slice ta m.sigs.length tc)).toList 0 w5
 have hrg := World.rangeAt_setCells_same w5 R 0 (msgC m (.slice ta m.sigs.length tc)).toList HT5.out
 rw [hw6] at hgr hrg
 have hto6 : OwnSg w6 w3.heap.size ta m.sigs.length tc L := by
  obtain ⟨C', hC'⟩ := HM5.out
  exact HTO5.out.grownT hC' (by decide) (by decide) hgr
 have hbel : Below w.heap.size w w6 := HB5.out.grown hgr HB5.out.size (fun k hk => by cases hk; exact HRW.out)
 refine bodyPost_ret (v := .agg (msgC m (.slice ta m.sigs.length tc))) ?_ rfl ⟨ta, tc, L, rfl, hto6.weaken HW3.out, HLM.out, hbel⟩
 have hload := run_loadVar_mid (P := Tryz.prog) w6 R 0 27 (msgC m (.slice ta m.sigs.length tc)).toList _ hrg Tryz.underlying27 rfl (by kernel_rfl)
 exact results_cell Tryz.results9 (by rfl) hload

end Code
end Go.Proofs.YtdpjbnjlognmeaaGreatDoor
