/- Package law15: the error of a message that may not be. -/
import Derived.Test.YtdpjbnjlognmeaaGreatDoorLyN
namespace Go.Proofs.YtdpjbnjlognmeaaGreatDoor
open Go.RowKit

namespace B
def refM : Msg := { exL with sigs := [sigL ⟨#[115]⟩ 1 0 0 2, { sigL ⟨#[98]⟩ 2 3 4 4 with signed := true }, { sigL ⟨#[99]⟩ 2 2 15 8 with moto := true }, { sigL ⟨#[100]⟩ 0 0 2 1 with start := 1 }] }
theorem ref_no : refM.no = (17, 0, 0) := by decide +kernel
end B

namespace Code

attribute [local go_sem ↓] Go.wp_at_zero Go.wp_at_succ

theorem wf_ref : MsgWf B.refM := by
 refine ⟨by unfold B.In64; decide, by unfold B.In64; decide, by decide, by decide, by unfold B.In64; decide, by decide, fun s hs => ?_⟩
 simp only [B.refM, List.mem_cons, List.not_mem_nil, or_false] at hs
 have ha : ∀ t ∈ [(⟨#[65]⟩ : ByteArray)], t.size ≤ 9223372036854775807 := fun t ht => by obtain rfl := List.mem_singleton.1 ht; decide
 rcases hs with rfl | rfl | rfl | rfl
 all_goals exact ⟨by unfold B.In64; decide, by unfold B.In64; decide, by decide, by unfold B.In64; decide, by unfold B.InU64; decide, by unfold B.In64; decide, by unfold B.In64; decide, ⟨by unfold B.In64; decide, by unfold B.In64; decide⟩, ⟨by unfold B.In64; decide, by unfold B.In64; decide⟩, ⟨by unfold B.In64; decide, by unfold B.In64; decide⟩, ⟨by unfold B.In64; decide, by unfold B.In64; decide⟩, by decide, ha⟩

set_option maxRecDepth 100000 in
set_option maxHeartbeats 6400000 in
theorem refused_any (w : World) (hU : UTabs w) : Calls Tryz.prog 23 #[] w (fun e w' => e = .returned (.iface 92 (.agg #[.int .i64 17, .int .i64 0, .int .i64 0])) ∧ Below w.heap.size w w') := by
 have HU := Lib.hid hU
 clear hU
 go_enter Tryz.func23, Tryz.ntmps23
 go_upto_region 2 with (first
  | (go_at_call 28; refine (example_any _).mono ?_; rintro e w1 ⟨g, b1, b2, b3, b4, rfl, hown, hb1⟩)
  | (refine wpList_store_mid (by rfl) 27 _ _ (by rfl) w1.heap.size 0 (msgC B.exL (.slice (some ⟨g, 0, none⟩) 4 4)) (by rfl) (by rfl) (there_alloc _ _ _ (by rfl)) (by kernel_rfl) (by simp [msgC, Value.oneCell']) ?_; generalize hw2 : World.setCells _ _ _ _ = w2))
 have hb12 : Below w1.heap.size w1 w2 := by
  rw [← hw2]
  exact ((Below.refl _ _).alloc (Nat.le_refl _) _).grown (grownBy_setCells _ _ _ _) (by simp) (fun k hk => by cases hk; exact Nat.le_refl _)
 have hrow2 : RC w2 w1.heap.size 27 8 (msgC B.exL (.slice (some ⟨g, 0, none⟩) 4 4)) := by rw [← hw2]; exact RC.over _ _ _ _ (by rfl) rfl
 obtain ⟨X, hX⟩ : ∃ X, w1.heap.size = X := ⟨_, rfl⟩
 have hown2 := hown.kept hb12
 have hb2 := hb1.trans (hb12.mono hb1.size)
 rw [hX] at hrow2 ⊢
 have hp : (exP b1 b2 b3 b4)[3]? = some (B.sigL ⟨#[100]⟩ 0 0 2 1, .slice (some ⟨b4, 0, none⟩) 1 1) := rfl
 have c7 : w2.cell? ⟨X, 7, none⟩ = some (.slice (some ⟨g, 0, none⟩) 4 4) := hrow2.cell (j := 7) rfl
 have d5 : w2.cell? ⟨g, 62, none⟩ = some (.int .i64 2) := hown2.cell (i := 3) (j := 5) hp (by omega)
 have f5 : w2.frozen? ⟨g, 62, none⟩ = false := hown2.free 62
 have hown3 : OwnSg (w2.setCell ⟨g, 62, none⟩ (.int .i64 1)) w.heap.size (some ⟨g, 0, none⟩) 4 4 ((exP b1 b2 b3 b4).set 3 ({ B.sigL ⟨#[100]⟩ 0 0 2 1 with start := 1 }, .slice (some ⟨b4, 0, none⟩) 1 1)) := hown2.put (i := 3) (f := 5) hp (.int .i64 1) _ _ (by omega) (fun j hj => by
  match j, hj with
  | 0, _ => rfl
  | 1, _ => rfl
  | 2, _ => rfl
  | 3, _ => rfl
  | 4, _ => rfl
  | 5, _ => rfl
  | 6, _ => rfl
  | 7, _ => rfl
  | 8, _ => rfl
  | 9, _ => rfl
  | 10, _ => rfl
  | 11, _ => rfl
  | 12, _ => rfl
  | 13, _ => rfl
  | 14, _ => rfl
  | 15, _ => rfl
  | 16, _ => rfl
  | 17, _ => rfl
  | 18, _ => rfl
  | n + 19, h => omega) (hown2.to_ _ (List.mem_of_getElem? hp))
 obtain ⟨C, hC⟩ := hown2.block
 have hg3 := grownBy_setCells g [.int .i64 1] 62 w2
 have hrow3 : RC (w2.setCell ⟨g, 62, none⟩ (.int .i64 1)) X 27 8 (msgC B.exL (.slice (some ⟨g, 0, none⟩) 4 4)) := hrow2.grownT hC (by decide) hg3
 have hb3 : Below w.heap.size w (w2.setCell ⟨g, 62, none⟩ (.int .i64 1)) := hb2.setCell hown2.le _
 have HOWN3 := Lib.hid hown3
 have HROW3 := Lib.hid hrow3
 have HB3 := Lib.hid hb3
 clear hw2 hb12 hrow2 hX hown2 hb2 hp hown3 hC hg3 hrow3 hb3 hown hb1
 go_upto_region 3 with fail
 obtain ⟨w3, hw3⟩ : ∃ w3, w2.setCell ⟨g, 62, none⟩ (.int .i64 1) = w3 := ⟨_, rfl⟩
 rw [hw3] at HOWN3 HROW3 HB3 ⊢
 have hrr := RC.range HROW3.out
 have hs : SigsAt w3 (some ⟨g, 0, none⟩) 4 B.refM.sigs := HOWN3.out.sigsAt
 have hpk := pack_no B.refM (some ⟨g, 0, none⟩) 4 4 w3 wf_ref hs (HU.out.below HB3.out (Nat.le_refl _)) (by rw [B.ref_no]; decide)
 unfold NoProg errL at hpk
 rw [B.ref_no, if_neg (by decide)] at hpk
 clear hw3 hs c7 d5 f5
 go_wp2_with (first
  | refine wpList_load_mid (by rfl) 27 _ (by rfl) X 0 (by rfl) (msgC B.exL (.slice (some ⟨g, 0, none⟩) 4 4)).toList _ hrr Tryz.underlying27 (by rfl) (by kernel_rfl) ?_
  | (go_at_call 35; refine hpk.mono ?_; rintro e w4 ⟨rfl, hb4⟩))
 go_ret
 exact ⟨rfl, HB3.out.trans (hb4.mono HB3.out.size)⟩

end Code
end Go.Proofs.YtdpjbnjlognmeaaGreatDoor
