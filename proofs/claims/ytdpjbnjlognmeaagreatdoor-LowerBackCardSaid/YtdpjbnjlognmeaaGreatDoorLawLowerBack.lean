/- 'LowerBack': of any message that may be, any payload and values: what is laid is read as it was: the statement holds of every input. No condition beyond the card's own: the listed variables hold what the program's text lays. -/
import Derived.Test.YtdpjbnjlognmeaaGreatDoorFrame
import Derived.Test.YtdpjbnjlognmeaaGreatDoorDoor1
import Derived.Test.YtdpjbnjlognmeaaGreatDoorFactLowerBack
import Derived.Test.YtdpjbnjlognmeaaGreatDoorLyH
import Derived.Test.YtdpjbnjlognmeaaGreatDoorOpM
import Derived.Test.YtdpjbnjlognmeaaGreatDoorOpen5
import Derived.Deep.Cut
import Derived.Deep.RegionHeld3
namespace Go.Proofs.YtdpjbnjlognmeaaGreatDoor
open Go.ChangeShapes Go.WideShapes Go.ChangeAt Go.RowKit Go.Proofs.YtdpjbnjlognmeaaGreatDoor.Code

namespace LawLowerBack

attribute [local go_sem ↓] Go.wp_at_zero Go.wp_at_succ


set_option maxRecDepth 100000 in
set_option maxHeartbeats 12800000 in
theorem law (m0 : B.Msg) (sa0 : Option Addr) (sn0 sc0 : Nat) (pa1 : Option Addr) (pn1 pc1 : Nat) (pay1 : List Nat) (ia2 : Option Addr) (im2 ic2 : Nat) (inp2 : List Nat) (w : World) (hs0 : SigsAt w sa0 sn0 m0.sigs) (hsl0 : sn0 ≤ 9223372036854775807) (hm0 : MsgWf m0) (hy1 : ListAt w pa1 pn1 (pay1.map u8V)) (hb1 : B.Bytes pay1) (hyn1 : pa1 = none → pc1 = 0) (hyl1 : pn1 ≤ 9223372036854775807) (hu2 : ListAt w ia2 im2 (inp2.map u64V)) (hw2 : B.Words inp2) (hun2 : ia2 = none → ic2 = 0) (hul2 : im2 ≤ 9223372036854775807) (hR : LReady w) :
    Calls Tryz.prog 4 #[.agg (msgC m0 (.slice sa0 sn0 sc0)), .slice pa1 pn1 pc1, .slice ia2 im2 ic2] w (BoolOut true w) := by
 have hn := hs0.len
 have HM := Lib.hid hm0
 have HS := Lib.hid hs0
 have HYL := Lib.hid hyl1
 have HUL := Lib.hid hul2
 have HY := Lib.hid hy1
 have HBY := Lib.hid hb1
 have HV := Lib.hid hu2
 have HWI := Lib.hid hw2
 have hbox := RC.new (msgC m0 (.slice sa0 sn0 sc0)) 27 w (n := 8) rfl rfl
 have hbel : Below w.heap.size w (w.alloc (.cells (msgC m0 (.slice sa0 sn0 sc0)) 27)) := (Below.refl _ _).alloc (Nat.le_refl _) _
 obtain ⟨w1, hw1⟩ : ∃ w1, w.alloc (.cells (msgC m0 (.slice sa0 sn0 sc0)) 27) = w1 := ⟨_, rfl⟩
 rw [hw1] at hbox hbel
 have HU := Lib.hid (hR.utf8.below hbel (Nat.le_refl _))
 have HT := Lib.hid (hR.tabs.below hbel (Nat.le_refl _))
 have HBOX := Lib.hid hbox
 have HB := Lib.hid hbel
 have HN := Lib.hid hn
 clear hs0 hm0 hy1 hb1 hyn1 hyl1 hu2 hw2 hun2 hul2 hR hbox hbel hn hsl0
 go_enter Tryz.func4, Tryz.ntmps4
 go_upto_region 1 with fail
 try rw [hw1]
 clear hw1
 go_upto_region 3 with (go_at_call 7; refine (works15_any _ HU.out HT.out).mono ?_; rintro e w2 ⟨rfl, hb2⟩)
 have hbox2 := HBOX.out.below hb2 HBOX.out.blk
 have hrr2 := RC.range hbox2
 have HB2 := Lib.hid (HB.out.trans (hb2.mono HB.out.size))
 have HU2 := Lib.hid (HU.out.below hb2 (Nat.le_refl _))
 have HT2 := Lib.hid (HT.out.below hb2 (Nat.le_refl _))
 have HBOX2 := Lib.hid hbox2
 have hmsg := message_any apart_any m0 sa0 sn0 sc0 w2 HM.out (HS.out.below HB2.out (Nat.le_refl _)) HU2.out
 unfold ErrOut errL at hmsg
 clear hb2 hbox2 HBOX HB HU HT
 rcases Classical.em (m0.no.1 = 0) with h0 | h0
 case' inr =>
  rw [if_neg h0] at hmsg
  clear h0
  go_wp2_with (first
   | refine wpList_load_mid (by rfl) 27 _ (by rfl) w.heap.size 0 (by rfl) (msgC m0 (.slice sa0 sn0 sc0)).toList _ hrr2 Tryz.underlying27 (by rfl) (by kernel_rfl) ?_
   | (go_at_call 8; refine hmsg.mono ?_; rintro e w3 ⟨rfl, hb3⟩))
  go_ret
  exact ⟨rfl, HB2.out.trans (hb3.mono HB2.out.size)⟩
 rw [if_pos h0] at hmsg
 have hok := HM.out.ok h0
 have hn64 : sn0 ≤ 64 := by rw [HN.out]; exact hok.count
 obtain ⟨z, hz⟩ : ∃ z : Nat, m0.size = (z : Int) := ⟨m0.size.toNat, by have := hok.size; omega⟩
 have hz8 : z ≤ 8 := by have := hok.size; omega
 have HZ := Lib.hid hz
 have HOK := Lib.hid hok
 have H0 := Lib.hid h0
 have HBR := Lib.hid (B.back_run hok (pay := B.padL pay1 z) (inp := B.padL inp2 sn0) (by rw [B.padL_len, hz]; rfl) (B.padL_bytes HBY.out z))
 clear h0 hz hok
 go_upto_region 5 with (first
  | refine wpList_load_mid (by rfl) 27 _ (by rfl) w.heap.size 0 (by rfl) (msgC m0 (.slice sa0 sn0 sc0)).toList _ hrr2 Tryz.underlying27 (by rfl) (by kernel_rfl) ?_
  | (go_at_call 8; refine hmsg.mono ?_; rintro e w3 ⟨rfl, hb3⟩))
 have hrr3 := RC.range (HBOX2.out.below hb3 HBOX2.out.blk)
 have HB3 := Lib.hid (HB2.out.trans (hb3.mono HB2.out.size))
 have HBOX3 := Lib.hid (HBOX2.out.below hb3 HBOX2.out.blk)
 have HU3 := Lib.hid (HU2.out.below hb3 (Nat.le_refl _))
 have HT3 := Lib.hid (HT2.out.below hb3 (Nat.le_refl _))
 have hslots := slots_any m0 sa0 ia2 sn0 sc0 im2 ic2 inp2 w3 hn64 (HV.out.below HB3.out (Nat.le_refl _)) HUL.out
 rw [slotsV_pad] at hslots
 clear hb3 hrr2 hmsg HBOX2 HU2 HT2 HB2
 go_upto_region 6 with (first
  | refine wpList_load_mid (by rfl) 27 _ (by rfl) w.heap.size 0 (by rfl) (msgC m0 (.slice sa0 sn0 sc0)).toList _ hrr3 Tryz.underlying27 (by rfl) (by kernel_rfl) ?_
  | (go_at_call 10; refine hslots.mono ?_; rintro e w4 ⟨va, vc, rfl, hown4, hb4⟩))
 have HB4 := Lib.hid (HB3.out.trans (hb4.mono HB3.out.size))
 have HBOX4 := Lib.hid (HBOX3.out.below hb4 HBOX3.out.blk)
 have HU4 := Lib.hid (HU3.out.below hb4 (Nat.le_refl _))
 have HT4 := Lib.hid (HT3.out.below hb4 (Nat.le_refl _))
 have HVA := Lib.hid (ListAt.ofOwn hown4.own)
 have HSIZED : Hid (∀ wy, Below w4.heap.size w4 wy → Calls Tryz.prog 12 #[.agg (msgC m0 (.slice sa0 sn0 sc0)), .slice pa1 pn1 pc1] wy (SizedOut z ((B.padL pay1 z).map u8V) wy)) := Lib.hid (fun wy hb => by
  rw [← sizedV_pad]
  exact sized_any m0 (.slice sa0 sn0 sc0) pa1 z pn1 pc1 pay1 wy (by omega) HZ.out (HY.out.below (HB4.out.trans (hb.mono HB4.out.size)) (Nat.le_refl _)) HYL.out)
 obtain ⟨r, hr⟩ : ∃ r, B.run m0.packI (B.padL inp2 sn0) 0 (B.start (B.padL pay1 z) m0.sigs.length) = r := ⟨_, rfl⟩
 have HPACK : Hid (∀ wy qa qc, Below w4.heap.size w4 wy → ListAt wy qa z ((B.padL pay1 z).map u8V) → Calls Tryz.prog 11 #[.agg (msgC m0 (.slice sa0 sn0 sc0)), .slice qa z qc, .slice va sn0 vc] wy (RanUni r wy)) := Lib.hid (fun wy qa qc hb hq => by
  rw [← hr]
  exact packed_ok m0 sa0 qa va sn0 sc0 z qc sn0 vc (B.padL pay1 z) (B.padL inp2 sn0) wy HM.out (HS.out.below (HB4.out.trans (hb.mono HB4.out.size)) (Nat.le_refl _)) (HU4.out.below hb (Nat.le_refl _)) (HT4.out.below hb (Nat.le_refl _)) H0.out HZ.out.symm rfl hq (HVA.out.below hb (Nat.le_refl _)) (B.padL_bytes HBY.out z) (B.padL_words HWI.out sn0))
 have HRR := Lib.hid hr
 clear hr hown4 hb4 hrr3 hslots HBOX3 HU3 HT3 HB3
 go_cut [8, 9] from 19 to 28 (fun p q wx => ∃ X : Nat, p = .pointer (some ⟨X, 0, none⟩) ∧ q = .bool true ∧ RanBox r X w4 wx)
 case first =>
  refine wp_region_held_drew (S := Below w4.heap.size w4) (by kernel_rfl) (Below.refl _ _).drew (fun hS1 => ?_)
  refine take_slot (i := 0) (d := 20) (v := .agg (msgC m0 (.slice sa0 sn0 sc0))) rfl rfl (by kernel_rfl) (by kernel_rfl) (by kernel_rfl) (fun _ _ _ h => h) (yieldsIf_load_mid (by rfl) 27 (.tmp 3) rfl w.heap.size 0 rfl ((msgC m0 (.slice sa0 sn0 sc0)) : Array Value).toList _ (fun w' h => RC.range (HBOX4.out.below h HBOX4.out.blk)) Tryz.underlying27 rfl (by kernel_rfl)) hS1 ?_
  try simp only [Act.put, List.setIfInBounds_toArray, List.set_cons_zero, List.set_cons_succ]
  refine take_slot (i := 1) (d := 21) (v := .agg (msgC m0 (.slice sa0 sn0 sc0))) rfl rfl (by kernel_rfl) (by kernel_rfl) (by kernel_rfl) (fun _ _ _ h => h) (yieldsIf_load_mid (by rfl) 27 (.tmp 3) rfl w.heap.size 0 rfl ((msgC m0 (.slice sa0 sn0 sc0)) : Array Value).toList _ (fun w' h => RC.range (HBOX4.out.below h HBOX4.out.blk)) Tryz.underlying27 rfl (by kernel_rfl)) hS1 ?_
  try simp only [Act.put, List.setIfInBounds_toArray, List.set_cons_zero, List.set_cons_succ]
  refine take_slot (i := 2) (d := 22) (v := .slice pa1 pn1 pc1) rfl rfl (by kernel_rfl) (by kernel_rfl) (by kernel_rfl) (fun _ _ _ h => h) (Or.inl ⟨by rfl, fun w' h => by go_simp⟩) hS1 ?_
  try simp only [Act.put, List.setIfInBounds_toArray, List.set_cons_zero, List.set_cons_succ]
  refine take_slot (i := 4) (d := 24) (v := .slice va sn0 vc) rfl rfl (by kernel_rfl) (by kernel_rfl) (by kernel_rfl) (fun _ _ _ h => h) (Or.inl ⟨by rfl, fun w' h => by go_simp⟩) hS1 ?_
  try simp only [Act.put, List.setIfInBounds_toArray, List.set_cons_zero, List.set_cons_succ]
  refine wpAnyH_ready (rs := [3, 9]) (by kernel_rfl) (by simp) ?_
  refine AllReadyH.cons rfl (fun K hK => ?_) (AllReadyH.cons rfl (fun K hK => ?_) AllReadyH.nil)
  ·go_simp
   refine (HSIZED.out _ hS1).mono ?_
   rintro e y1 ⟨qa, qc, rfl, hq1, hbq⟩
   refine hK.out _ _ (hS1.trans (hbq.mono hS1.size)) (fun hS2 => ?_)
   clear hK K
   try simp only [Act.put, List.setIfInBounds_toArray, List.set_cons_zero, List.set_cons_succ]
   refine wpAnyH_ready (rs := [5, 9]) (by kernel_rfl) (by simp) ?_
   refine AllReadyH.cons rfl (fun K hK => ?_) (AllReadyH.cons rfl (fun K hK => ?_) AllReadyH.nil)
   ·go_simp
    refine (HPACK.out _ qa qc hS2 (ListAt.ofOwn hq1.own)).mono ?_
    rintro e y2 ⟨a1, c1, a2, c2, a3, c3, rfl, o1, o2, o3, hbp⟩
    refine hK.out _ _ (hS2.trans (hbp.mono hS2.size)) (fun hS3 => ?_)
    clear hK K
    try simp only [Act.put, List.setIfInBounds_toArray, List.set_cons_zero, List.set_cons_succ]
    replace o1 := o1.weaken (base' := w4.heap.size) hS2.size
    replace o2 := o2.weaken (base' := w4.heap.size) hS2.size
    replace o3 := o3.weaken (base' := w4.heap.size) hS2.size
    refine take_slot (i := 6) (d := 19) (v := .tuple #[.agg #[.bool (fl r), .int .i64 (slotOf r), .slice a1 (payL r).length c1, .slice a2 (outL r).length c2, .slice a3 (hasL r).length c3, .int .i64 (r.steps : Int)], .bool true]) rfl rfl (by kernel_rfl) (by kernel_rfl) (by kernel_rfl) (fun _ _ _ h => h) (Or.inl ⟨by rfl, fun w' h => by go_simp⟩) hS3 ?_
    try simp only [Act.put, List.setIfInBounds_toArray, List.set_cons_zero, List.set_cons_succ]
    refine take_slot (i := 7) (d := 26) (v := .agg #[.bool (fl r), .int .i64 (slotOf r), .slice a1 (payL r).length c1, .slice a2 (outL r).length c2, .slice a3 (hasL r).length c3, .int .i64 (r.steps : Int)]) rfl rfl (by kernel_rfl) (by kernel_rfl) (by kernel_rfl) (fun _ _ _ h => h) (Or.inl ⟨by rfl, fun w' h => by go_simp⟩) hS3 ?_
    try simp only [Act.put, List.setIfInBounds_toArray, List.set_cons_zero, List.set_cons_succ]
    refine take_slot (i := 8) (d := 27) (v := .bool true) rfl rfl (by kernel_rfl) (by kernel_rfl) (by kernel_rfl) (fun _ _ _ h => h) (Or.inl ⟨by rfl, fun w' h => by go_simp⟩) hS3 ?_
    try simp only [Act.put, List.setIfInBounds_toArray, List.set_cons_zero, List.set_cons_succ]
    refine wpAnyH_ready (rs := [9]) (by kernel_rfl) (by simp) ?_
    refine AllReadyH.cons rfl (fun K hK => ?_) AllReadyH.nil
    refine step_alloc rfl rfl ?_
    intro X ya hzA hXl hgA
    have hbA : Below y2.heap.size y2 ya := (Below.refl _ _).grown hgA (Nat.le_refl _) (fun k hk => by cases hk)
    have hXle : w4.heap.size ≤ X := Nat.le_trans hS3.size hXl
    refine hK.out _ _ (hS3.trans (hbA.mono hS3.size)) (fun hS4 => ?_)
    clear hK K
    try simp only [Act.put, List.getElem_toArray, List.getElem_cons_succ, List.getElem_cons_zero, List.setIfInBounds_toArray, List.set_cons_zero, List.set_cons_succ]
    replace o1 := o1.kept hbA
    replace o2 := o2.kept hbA
    replace o3 := o3.kept hbA
    have hG := hzA
    refine wpAnyH_ready (rs := [10]) (by kernel_rfl) (by simp) ?_
    refine AllReadyH.cons rfl (fun K hK => ?_) AllReadyH.nil
    refine step_store rfl (.tmp 8) (.tmp 26) rfl rfl rfl hG rfl (by simp [Value.oneCell']) ?_
    intro wx hrow6 hg6
    have hbox := ranBox_mk hG o1 o2 o3 hS4 hXle hg6 hrow6
    refine hK.out _ _ (hS4.grown hg6 hS4.size (fun k hk => by cases hk; exact hXle)) (fun hS9 => ?_)
    clear hK K
    try simp only [Act.put, List.getElem_toArray, List.getElem_cons_succ, List.getElem_cons_zero, List.setIfInBounds_toArray, List.set_cons_zero, List.set_cons_succ]
    refine take_slot (i := 11) (d := 9) (v := .bool true) rfl rfl (by kernel_rfl) (by kernel_rfl) (by kernel_rfl) (fun _ _ _ h => h) (Or.inl ⟨by rfl, fun w' h => by go_simp⟩) hS9 ?_
    try simp only [Act.put, List.setIfInBounds_toArray, List.set_cons_zero, List.set_cons_succ]
    refine wpAnyH_done (by kernel_rfl) ?_ _
    go_wp2_with fail
    go_meet
    case rel => exact ⟨X, rfl, rfl, hbox⟩
   ·refine step_alloc rfl rfl ?_
    intro X ya hzA hXl hgA
    have hbA : Below y1.heap.size y1 ya := (Below.refl _ _).grown hgA (Nat.le_refl _) (fun k hk => by cases hk)
    have hXle : w4.heap.size ≤ X := Nat.le_trans hS2.size hXl
    refine hK.out _ _ (hS2.trans (hbA.mono hS2.size)) (fun hS3 => ?_)
    clear hK K
    try simp only [Act.put, List.getElem_toArray, List.getElem_cons_succ, List.getElem_cons_zero, List.setIfInBounds_toArray, List.set_cons_zero, List.set_cons_succ]
    replace hq1 := hq1.kept hbA
    refine wpAnyH_ready (rs := [5]) (by kernel_rfl) (by simp) ?_
    refine AllReadyH.cons rfl (fun K hK => ?_) AllReadyH.nil
    go_simp
    refine (HPACK.out _ qa qc hS3 (ListAt.ofOwn hq1.own)).mono ?_
    rintro e y2 ⟨a1, c1, a2, c2, a3, c3, rfl, o1, o2, o3, hbp⟩
    refine hK.out _ _ (hS3.trans (hbp.mono hS3.size)) (fun hS4 => ?_)
    clear hK K
    try simp only [Act.put, List.setIfInBounds_toArray, List.set_cons_zero, List.set_cons_succ]
    replace o1 := o1.weaken (base' := w4.heap.size) hS3.size
    replace o2 := o2.weaken (base' := w4.heap.size) hS3.size
    replace o3 := o3.weaken (base' := w4.heap.size) hS3.size
    refine take_slot (i := 6) (d := 19) (v := .tuple #[.agg #[.bool (fl r), .int .i64 (slotOf r), .slice a1 (payL r).length c1, .slice a2 (outL r).length c2, .slice a3 (hasL r).length c3, .int .i64 (r.steps : Int)], .bool true]) rfl rfl (by kernel_rfl) (by kernel_rfl) (by kernel_rfl) (fun _ _ _ h => h) (Or.inl ⟨by rfl, fun w' h => by go_simp⟩) hS4 ?_
    try simp only [Act.put, List.setIfInBounds_toArray, List.set_cons_zero, List.set_cons_succ]
    refine take_slot (i := 7) (d := 26) (v := .agg #[.bool (fl r), .int .i64 (slotOf r), .slice a1 (payL r).length c1, .slice a2 (outL r).length c2, .slice a3 (hasL r).length c3, .int .i64 (r.steps : Int)]) rfl rfl (by kernel_rfl) (by kernel_rfl) (by kernel_rfl) (fun _ _ _ h => h) (Or.inl ⟨by rfl, fun w' h => by go_simp⟩) hS4 ?_
    try simp only [Act.put, List.setIfInBounds_toArray, List.set_cons_zero, List.set_cons_succ]
    refine take_slot (i := 8) (d := 27) (v := .bool true) rfl rfl (by kernel_rfl) (by kernel_rfl) (by kernel_rfl) (fun _ _ _ h => h) (Or.inl ⟨by rfl, fun w' h => by go_simp⟩) hS4 ?_
    try simp only [Act.put, List.setIfInBounds_toArray, List.set_cons_zero, List.set_cons_succ]
    have hG := (hbp.block _ (lt_of_block hzA)).trans hzA
    refine wpAnyH_ready (rs := [10]) (by kernel_rfl) (by simp) ?_
    refine AllReadyH.cons rfl (fun K hK => ?_) AllReadyH.nil
    refine step_store rfl (.tmp 8) (.tmp 26) rfl rfl rfl hG rfl (by simp [Value.oneCell']) ?_
    intro wx hrow6 hg6
    have hbox := ranBox_mk hG o1 o2 o3 hS4 hXle hg6 hrow6
    refine hK.out _ _ (hS4.grown hg6 hS4.size (fun k hk => by cases hk; exact hXle)) (fun hS9 => ?_)
    clear hK K
    try simp only [Act.put, List.getElem_toArray, List.getElem_cons_succ, List.getElem_cons_zero, List.setIfInBounds_toArray, List.set_cons_zero, List.set_cons_succ]
    refine take_slot (i := 11) (d := 9) (v := .bool true) rfl rfl (by kernel_rfl) (by kernel_rfl) (by kernel_rfl) (fun _ _ _ h => h) (Or.inl ⟨by rfl, fun w' h => by go_simp⟩) hS9 ?_
    try simp only [Act.put, List.setIfInBounds_toArray, List.set_cons_zero, List.set_cons_succ]
    refine wpAnyH_done (by kernel_rfl) ?_ _
    go_wp2_with fail
    go_meet
    case rel => exact ⟨X, rfl, rfl, hbox⟩
  ·refine step_alloc rfl rfl ?_
   intro X ya hzA hXl hgA
   have hbA : Below w4.drew.heap.size w4.drew ya := (Below.refl _ _).grown hgA (Nat.le_refl _) (fun k hk => by cases hk)
   have hXle : w4.heap.size ≤ X := Nat.le_trans hS1.size hXl
   refine hK.out _ _ (hS1.trans (hbA.mono hS1.size)) (fun hS2 => ?_)
   clear hK K
   try simp only [Act.put, List.getElem_toArray, List.getElem_cons_succ, List.getElem_cons_zero, List.setIfInBounds_toArray, List.set_cons_zero, List.set_cons_succ]
   refine wpAnyH_ready (rs := [3]) (by kernel_rfl) (by simp) ?_
   refine AllReadyH.cons rfl (fun K hK => ?_) AllReadyH.nil
   go_simp
   refine (HSIZED.out _ hS2).mono ?_
   rintro e y1 ⟨qa, qc, rfl, hq1, hbq⟩
   refine hK.out _ _ (hS2.trans (hbq.mono hS2.size)) (fun hS3 => ?_)
   clear hK K
   try simp only [Act.put, List.setIfInBounds_toArray, List.set_cons_zero, List.set_cons_succ]
   refine wpAnyH_ready (rs := [5]) (by kernel_rfl) (by simp) ?_
   refine AllReadyH.cons rfl (fun K hK => ?_) AllReadyH.nil
   go_simp
   refine (HPACK.out _ qa qc hS3 (ListAt.ofOwn hq1.own)).mono ?_
   rintro e y2 ⟨a1, c1, a2, c2, a3, c3, rfl, o1, o2, o3, hbp⟩
   refine hK.out _ _ (hS3.trans (hbp.mono hS3.size)) (fun hS4 => ?_)
   clear hK K
   try simp only [Act.put, List.setIfInBounds_toArray, List.set_cons_zero, List.set_cons_succ]
   replace o1 := o1.weaken (base' := w4.heap.size) hS3.size
   replace o2 := o2.weaken (base' := w4.heap.size) hS3.size
   replace o3 := o3.weaken (base' := w4.heap.size) hS3.size
   refine take_slot (i := 6) (d := 19) (v := .tuple #[.agg #[.bool (fl r), .int .i64 (slotOf r), .slice a1 (payL r).length c1, .slice a2 (outL r).length c2, .slice a3 (hasL r).length c3, .int .i64 (r.steps : Int)], .bool true]) rfl rfl (by kernel_rfl) (by kernel_rfl) (by kernel_rfl) (fun _ _ _ h => h) (Or.inl ⟨by rfl, fun w' h => by go_simp⟩) hS4 ?_
   try simp only [Act.put, List.setIfInBounds_toArray, List.set_cons_zero, List.set_cons_succ]
   refine take_slot (i := 7) (d := 26) (v := .agg #[.bool (fl r), .int .i64 (slotOf r), .slice a1 (payL r).length c1, .slice a2 (outL r).length c2, .slice a3 (hasL r).length c3, .int .i64 (r.steps : Int)]) rfl rfl (by kernel_rfl) (by kernel_rfl) (by kernel_rfl) (fun _ _ _ h => h) (Or.inl ⟨by rfl, fun w' h => by go_simp⟩) hS4 ?_
   try simp only [Act.put, List.setIfInBounds_toArray, List.set_cons_zero, List.set_cons_succ]
   refine take_slot (i := 8) (d := 27) (v := .bool true) rfl rfl (by kernel_rfl) (by kernel_rfl) (by kernel_rfl) (fun _ _ _ h => h) (Or.inl ⟨by rfl, fun w' h => by go_simp⟩) hS4 ?_
   try simp only [Act.put, List.setIfInBounds_toArray, List.set_cons_zero, List.set_cons_succ]
   have hG := (hbp.block _ (Nat.lt_of_lt_of_le (lt_of_block hzA) hbq.size)).trans ((hbq.block _ (lt_of_block hzA)).trans hzA)
   refine wpAnyH_ready (rs := [10]) (by kernel_rfl) (by simp) ?_
   refine AllReadyH.cons rfl (fun K hK => ?_) AllReadyH.nil
   refine step_store rfl (.tmp 8) (.tmp 26) rfl rfl rfl hG rfl (by simp [Value.oneCell']) ?_
   intro wx hrow6 hg6
   have hbox := ranBox_mk hG o1 o2 o3 hS4 hXle hg6 hrow6
   refine hK.out _ _ (hS4.grown hg6 hS4.size (fun k hk => by cases hk; exact hXle)) (fun hS9 => ?_)
   clear hK K
   try simp only [Act.put, List.getElem_toArray, List.getElem_cons_succ, List.getElem_cons_zero, List.setIfInBounds_toArray, List.set_cons_zero, List.set_cons_succ]
   refine take_slot (i := 11) (d := 9) (v := .bool true) rfl rfl (by kernel_rfl) (by kernel_rfl) (by kernel_rfl) (fun _ _ _ h => h) (Or.inl ⟨by rfl, fun w' h => by go_simp⟩) hS9 ?_
   try simp only [Act.put, List.setIfInBounds_toArray, List.set_cons_zero, List.set_cons_succ]
   refine wpAnyH_done (by kernel_rfl) ?_ _
   go_wp2_with fail
   go_meet
   case rel => exact ⟨X, rfl, rfl, hbox⟩
 case rest =>
  obtain ⟨X, rfl, rfl, hbx⟩ := hcut
  obtain ⟨a1, c1, a2, c2, a3, c3, hX, o1, o2, o3, hbc, _⟩ := hbx
  have HBC := Lib.hid (HB4.out.trans (hbc.mono HB4.out.size))
  have HBOXC := Lib.hid (HBOX4.out.below hbc HBOX4.out.blk)
  have HUC := Lib.hid (HU4.out.below hbc (Nat.le_refl _))
  have HTC := Lib.hid (HT4.out.below hbc (Nat.le_refl _))
  have HVC := Lib.hid (HVA.out.below hbc (Nat.le_refl _))
  have HPC := Lib.hid (ListAt.ofOwn o1.own)
  have k7 : wc.cell? ⟨w.heap.size, 7, none⟩ = some (.slice sa0 sn0 sc0) := HBOXC.out.cell (j := 7) rfl
  clear o1 o2 o3 hbc HBOX4 HU4 HT4 HVA HSIZED HPACK
  rcases HBR.out with ⟨k, hk, hkn⟩ | ⟨s1, n1, e1, l1, y1, hun⟩
  ·rw [HRR.out] at hk
   have f0 : fl r = true := by unfold fl; rw [hk]; rfl
   have f1 : slotOf r = (k : Int) := by unfold slotOf; rw [hk]; rfl
   rw [f0, f1] at hX
   have c0 : wc.cell? ⟨X, 0, none⟩ = some (.bool true) := hX.cell (j := 0) rfl
   have c1' : wc.cell? ⟨X, 1, none⟩ = some (.int .i64 (k : Int)) := hX.cell (j := 1) rfl
   have q0 : decide ((k : Int) ≥ 0) = true := by simp
   have q1 : decide (k < sn0) = true := by have := HN.out; simp; omega
   have q2 : (k : Int) < (sn0 : Int) := by have := HN.out; omega
   clear hk f0 f1 hX HBR HRR hkn HPC HVC
   go_wp2_with fail
   go_ret
   exact ⟨rfl, HBC.out⟩
  ·obtain rfl : r = ⟨none, s1, n1⟩ := HRR.out.symm.trans e1
   have c0 : wc.cell? ⟨X, 0, none⟩ = some (.bool false) := hX.cell (j := 0) rfl
   have c2' : wc.cell? ⟨X, 2, none⟩ = some (.slice a1 s1.pay.length c1) := hX.cell (j := 2) rfl
   have hpl : (s1.pay.length : Int) = m0.size := by rw [l1, HZ.out]; rfl
   have hrrc := RC.range HBOXC.out
   have hunp := unpacked_ok m0 sa0 a1 sn0 sc0 s1.pay.length c1 s1.pay wc HM.out (HS.out.below HBC.out (Nat.le_refl _)) HUC.out HTC.out H0.out hpl HPC.out y1
   obtain ⟨s2, n2, e2, h2h, h2l, h2v⟩ := hun (List.replicate m0.sigs.length 77)
   rw [e2] at hunp
   have h2n : s2.out.length = sn0 := by rw [HN.out]; exact h2l
   have h2m : s2.has.length = sn0 := by rw [HN.out, h2h]; simp [B.Msg.actives]
   replace hunp := hunp.mono fun e w' h => RanTold.atN (f := false) (sl := 0) (pay := s2.pay) (out := s2.out) (has := s2.has) (st := n2) (RanUni.ok h rfl) h2n h2m
   have H2H := Lib.hid h2h
   have H2V := Lib.hid h2v
   clear hX HBR HRR e1 l1 y1 hun e2 h2h h2l h2v h2n h2m hpl k7
   go_upto_region 12 with (first
    | refine wpList_load_mid (by rfl) 27 _ (by rfl) w.heap.size 0 (by rfl) (msgC m0 (.slice sa0 sn0 sc0)).toList _ hrrc Tryz.underlying27 (by rfl) (by kernel_rfl) ?_
    | (go_at_call 13; refine hunp.mono ?_; rintro e w6 ⟨b1, d1, b2, d2, b3, d3, rfl, o1, o2, o3, hb6⟩))
   have hbox7 := RC.new #[.bool false, .int .i64 0, .slice b1 s2.pay.length d1, .slice b2 sn0 d2, .slice b3 sn0 d3, .int .i64 (n2 : Int)] 44 w6 (n := 6) rfl rfl
   have hb67 : Below w6.heap.size w6 (w6.alloc (.cells #[.bool false, .int .i64 0, .slice b1 s2.pay.length d1, .slice b2 sn0 d2, .slice b3 sn0 d3, .int .i64 (n2 : Int)] 44)) := (Below.refl _ _).alloc (Nat.le_refl _) _
   obtain ⟨w7, hw7⟩ : ∃ w7, w6.alloc (.cells #[.bool false, .int .i64 0, .slice b1 s2.pay.length d1, .slice b2 sn0 d2, .slice b3 sn0 d3, .int .i64 (n2 : Int)] 44) = w7 := ⟨_, rfl⟩
   obtain ⟨Y, hY⟩ : ∃ Y, w6.heap.size = Y := ⟨_, rfl⟩
   rw [hw7] at hbox7 hb67
   have hbc7 : Below wc.heap.size wc w7 := hb6.trans (hb67.mono hb6.size)
   have HX7 := Lib.hid ((ListAt.ofOwn o2.own).below hb67 (Nat.le_refl _))
   have HY7 := Lib.hid ((ListAt.ofOwn o3.own).below hb67 (Nat.le_refl _))
   have HV7 := Lib.hid (HVC.out.below hbc7 (Nat.le_refl _))
   have HBOX7 := Lib.hid (HBOXC.out.below hbc7 HBOXC.out.blk)
   have HB7 := Lib.hid (HBC.out.trans (hbc7.mono HBC.out.size))
   rw [hY] at hbox7
   have HRAN7 := Lib.hid hbox7
   try rw [hw7]
   try rw [hY]
   clear hw7 hY hbox7 hb67 hbc7 o1 o2 o3 hb6 hrrc hunp c0 c2' HBOXC HUC HTC HVC HPC
   refine wp_region_held_drew (S := Below w7.heap.size w7) (by kernel_rfl) (Below.refl _ _).drew (fun hS1 => ?_)
   refine take_slot (i := 0) (d := 50) (v := .bool true) rfl rfl (by kernel_rfl) (by kernel_rfl) (by kernel_rfl) (fun _ _ _ h => h) (Or.inl ⟨by rfl, fun w' h => by go_simp⟩) hS1 ?_
   try simp only [Act.put, List.setIfInBounds_toArray, List.set_cons_zero, List.set_cons_succ]
   refine take_slot (i := 1) (d := 51) (v := .bool true) rfl rfl (by kernel_rfl) (by kernel_rfl) (by kernel_rfl) (fun _ _ _ h => h) (Or.inl ⟨by rfl, fun w' h => by go_simp⟩) hS1 ?_
   try simp only [Act.put, List.setIfInBounds_toArray, List.set_cons_zero, List.set_cons_succ]
   refine take_slot (i := 2) (d := 52) (v := .pointer (some ⟨Y, 0, none⟩)) rfl rfl (by kernel_rfl) (by kernel_rfl) (by kernel_rfl) (fun _ _ _ h => h) (Or.inl ⟨by rfl, fun w' h => by go_simp⟩) hS1 ?_
   try simp only [Act.put, List.setIfInBounds_toArray, List.set_cons_zero, List.set_cons_succ]
   refine take_slot (i := 3) (d := 53) (v := .bool false) rfl rfl (by kernel_rfl) (by kernel_rfl) (by kernel_rfl) (fun _ _ _ h => h) (Or.inl ⟨by rfl, fun w' h => by (have c := (HRAN7.out.below h HRAN7.out.blk).cell (j := 0) (v := .bool false) rfl; go_simp)⟩) hS1 ?_
   try simp only [Act.put, List.setIfInBounds_toArray, List.set_cons_zero, List.set_cons_succ]
   refine take_slot (i := 4) (d := 54) (v := .bool true) rfl rfl (by kernel_rfl) (by kernel_rfl) (by kernel_rfl) (fun _ _ _ h => h) (Or.inl ⟨by rfl, fun w' h => by go_simp⟩) hS1 ?_
   try simp only [Act.put, List.setIfInBounds_toArray, List.set_cons_zero, List.set_cons_succ]
   refine take_slot (i := 5) (d := 55) (v := .bool true) rfl rfl (by kernel_rfl) (by kernel_rfl) (by kernel_rfl) (fun _ _ _ h => h) (Or.inl ⟨by rfl, fun w' h => by go_simp⟩) hS1 ?_
   try simp only [Act.put, List.setIfInBounds_toArray, List.set_cons_zero, List.set_cons_succ]
   refine take_slot (i := 6) (d := 56) (v := .bool true) rfl rfl (by kernel_rfl) (by kernel_rfl) (by kernel_rfl) (fun _ _ _ h => h) (Or.inl ⟨by rfl, fun w' h => by go_simp⟩) hS1 ?_
   try simp only [Act.put, List.setIfInBounds_toArray, List.set_cons_zero, List.set_cons_succ]
   refine take_slot (i := 7) (d := 57) (v := .agg #[.bool false, .int .i64 0, .slice b1 s2.pay.length d1, .slice b2 sn0 d2, .slice b3 sn0 d3, .int .i64 (n2 : Int)]) rfl rfl (by kernel_rfl) (by kernel_rfl) (by kernel_rfl) (fun _ _ _ h => h) (yieldsIf_load_mid (by rfl) 44 (.tmp 10) rfl Y 0 rfl (#[.bool false, .int .i64 0, .slice b1 s2.pay.length d1, .slice b2 sn0 d2, .slice b3 sn0 d3, .int .i64 (n2 : Int)] : Array Value).toList _ (fun w' h => RC.range (HRAN7.out.below h HRAN7.out.blk)) Tryz.underlying44 rfl (by kernel_rfl)) hS1 ?_
   try simp only [Act.put, List.setIfInBounds_toArray, List.set_cons_zero, List.set_cons_succ]
   refine take_slot (i := 8) (d := 58) (v := .slice va sn0 vc) rfl rfl (by kernel_rfl) (by kernel_rfl) (by kernel_rfl) (fun _ _ _ h => h) (Or.inl ⟨by rfl, fun w' h => by go_simp⟩) hS1 ?_
   try simp only [Act.put, List.setIfInBounds_toArray, List.set_cons_zero, List.set_cons_succ]
   refine take_slot (i := 9) (d := 59) (v := .agg (msgC m0 (.slice sa0 sn0 sc0))) rfl rfl (by kernel_rfl) (by kernel_rfl) (by kernel_rfl) (fun _ _ _ h => h) (yieldsIf_load_mid (by rfl) 27 (.tmp 3) rfl w.heap.size 0 rfl ((msgC m0 (.slice sa0 sn0 sc0)) : Array Value).toList _ (fun w' h => RC.range (HBOX7.out.below h HBOX7.out.blk)) Tryz.underlying27 rfl (by kernel_rfl)) hS1 ?_
   try simp only [Act.put, List.setIfInBounds_toArray, List.set_cons_zero, List.set_cons_succ]
   refine take_slot (i := 10) (d := 60) (v := .agg (msgC m0 (.slice sa0 sn0 sc0))) rfl rfl (by kernel_rfl) (by kernel_rfl) (by kernel_rfl) (fun _ _ _ h => h) (yieldsIf_load_mid (by rfl) 27 (.tmp 3) rfl w.heap.size 0 rfl ((msgC m0 (.slice sa0 sn0 sc0)) : Array Value).toList _ (fun w' h => RC.range (HBOX7.out.below h HBOX7.out.blk)) Tryz.underlying27 rfl (by kernel_rfl)) hS1 ?_
   try simp only [Act.put, List.setIfInBounds_toArray, List.set_cons_zero, List.set_cons_succ]
   refine take_slot (i := 11) (d := 61) (v := .slice va sn0 vc) rfl rfl (by kernel_rfl) (by kernel_rfl) (by kernel_rfl) (fun _ _ _ h => h) (Or.inl ⟨by rfl, fun w' h => by go_simp⟩) hS1 ?_
   try simp only [Act.put, List.setIfInBounds_toArray, List.set_cons_zero, List.set_cons_succ]
   refine wpAnyH_ready (rs := [12]) (by kernel_rfl) (by simp) ?_
   refine AllReadyH.cons rfl (fun K hK => ?_) AllReadyH.nil
   go_simp
   refine (value_any m0 sa0 va sn0 sc0 sn0 vc (B.padL inp2 sn0) _ (HS.out.below (HB7.out.trans (hS1.mono HB7.out.size)) (Nat.le_refl _)) hn64 (HV7.out.below hS1 (Nat.le_refl _)) rfl).mono ?_
   rintro e y1 ⟨rfl, hc1⟩
   refine hK.out _ _ (hS1.trans (hc1.mono hS1.size)) (fun hS2 => ?_)
   clear hK K
   try simp only [Act.put, List.setIfInBounds_toArray, List.set_cons_zero, List.set_cons_succ]
   refine wpAnyH_ready (rs := [13]) (by kernel_rfl) (by simp) ?_
   refine AllReadyH.cons rfl (fun K hK => ?_) AllReadyH.nil
   go_simp
   refine (actives_any m0 (m0.muxV (B.padL inp2 sn0)) sa0 sn0 sc0 _ (HS.out.below (HB7.out.trans (hS2.mono HB7.out.size)) (Nat.le_refl _)) hn64).mono ?_
   rintro e y2 ⟨ha, hc, rfl, hoa, hc2⟩
   refine hK.out _ _ (hS2.trans (hc2.mono hS2.size)) (fun hS3 => ?_)
   clear hK K
   try simp only [Act.put, List.setIfInBounds_toArray, List.set_cons_zero, List.set_cons_succ]
   have hal : (m0.actives (m0.muxV (B.padL inp2 sn0))).length = sn0 := by rw [HN.out]; simp [B.Msg.actives]
   rw [hal] at hoa ⊢
   have hla := ListAt.ofOwn hoa.own
   rw [← H2H.out] at hla
   clear hoa hal
   refine wpAnyH_ready (rs := [14]) (by kernel_rfl) (by simp) ?_
   refine AllReadyH.cons rfl (fun K hK => ?_) AllReadyH.nil
   go_simp
   refine (same_yes false 0 (n2 : Int) b1 b2 b3 va ha s2.pay.length d1 sn0 d2 d3 vc hc s2.out (B.padL inp2 sn0) s2.has _ (HX7.out.below hS3 (Nat.le_refl _)) (HY7.out.below hS3 (Nat.le_refl _)) (HV7.out.below hS3 (Nat.le_refl _)) hla (by rw [H2H.out]; exact H2V.out) (by omega)).mono ?_
   rintro e y3 ⟨rfl, hc3⟩
   refine hK.out _ _ (hS3.trans (hc3.mono hS3.size)) (fun hS9 => ?_)
   clear hK K
   try simp only [Act.put, List.setIfInBounds_toArray, List.set_cons_zero, List.set_cons_succ]
   refine take_slot (i := 15) (d := 65) (v := .bool true) rfl rfl (by kernel_rfl) (by kernel_rfl) (by kernel_rfl) (fun _ _ _ h => h) (Or.inl ⟨by rfl, fun w' h => by go_simp⟩) hS9 ?_
   try simp only [Act.put, List.setIfInBounds_toArray, List.set_cons_zero, List.set_cons_succ]
   refine take_slot (i := 16) (d := 6) (v := .bool true) rfl rfl (by kernel_rfl) (by kernel_rfl) (by kernel_rfl) (fun _ _ _ h => h) (Or.inl ⟨by rfl, fun w' h => by go_simp⟩) hS9 ?_
   try simp only [Act.put, List.setIfInBounds_toArray, List.set_cons_zero, List.set_cons_succ]
   refine wpAnyH_done (by kernel_rfl) ?_ _
   go_wp2_with fail
   go_ret
   exact ⟨rfl, HB7.out.trans (hS9.mono HB7.out.size)⟩

set_option maxRecDepth 100000 in
theorem lifted (os : Os) (started : os.Started) (H : Type) (enc : TypeId × Value → H) :
    ReturnsInHanded {} Tryz.checked os 4 .any (fun w args => (Rows.lowerBackSpec.pre enc Tryz.prog Tryz.f4 Rows.lowerBackRow.domain false w args ∧ laidMetH Tryz.prog laid3 w) ∧ sizedMet enc Tryz.prog Tryz.f4 (OpenSpec.ofChange Rows.lowerBackSpec) false w args)
     (Rows.lowerBackSpec.post enc Tryz.prog Tryz.f4 false true false false) := by
 refine returnsInHanded_of_change_and (C := Tryz.checked) (X := fun w _ => laidMetH Tryz.prog laid3 w) (fun _ _ _ hh h => h.of_heap hh) own started (by kernel_rfl) Tryz.func4
  (ChangeSpec.witness_shaped (enc := enc) (C := Tryz.checked) (os := os) (X := fun w _ => laidMetH Tryz.prog laid3 w) false (World.laidAll Tryz.prog os laid3) #[.agg #[.int .i64 0, .int .i64 0, .int .u32 0, .bool false, .string ⟨#[]⟩, .int .i64 0, .string ⟨#[]⟩, .slice none 0 0], .slice none 0 0, .slice none 0 0] 8 (World.laidAll_os _ _ _) (World.shaped_of_ZipB (by kernel_rfl) (by kernel_rfl)) (by kernel_rfl) (by kernel_rfl) (by kernel_rfl) (door_met3 os _)) ?_
 intro W base args ds gs before hval0 hW hcnd hsz0 hL _
 have hval : ∀ (j : Nat) t v, Tryz.f4.params[j]? = some t → args[j]? = some v → Value.okWide Tryz.prog W .any base t v := hval0
 have hsz : (DataW.weightsEach Tryz.prog (Tryz.f4.params.toList ++ Rows.lowerBackSpec.plain.varTypes Tryz.prog) (ds ++ gs)).all (· ≤ reachBytes) = true := hsz0
 have hW' := hW
 obtain ⟨p, q, hA0, hV, rfl, hfz, hnd⟩ := hW
 have hA : DataW.TrodAll enc Tryz.prog W 0 (fun _ => true) true Tryz.f4.params.toList args.toList ds p := hA0
 rw [Tryz.params4] at hA hval hsz
 have hA1 := hA
 obtain ⟨v0, vs0, d0, ds0, p0, q0, hargs, rfl, rfl, h0, r0⟩ := trodAll_cons hA
 obtain ⟨v1, vs1, d1, ds1, p1, q1, rfl, rfl, rfl, h1, r1⟩ := trodAll_cons r0
 obtain ⟨v2, vs2, d2, ds2, p2, q2, rfl, rfl, rfl, h2, r2⟩ := trodAll_cons r1
 obtain ⟨rfl, rfl, rfl⟩ := trodAll_nil r2
 obtain rfl : args = #[v0, v1, v2] := by cases args; simp_all
 obtain ⟨rfl, rfl⟩ := trodVars_none hV
 obtain ⟨m0, sa0, sn0, sc0, rfl, hs0, hsl0, hm0⟩ := open_msg (hval 0 27 v0 rfl rfl) h0
 obtain ⟨pa1, pn1, pc1, rfl⟩ := okWide_slice Tryz.underlying28 (hval 1 28 v1 rfl rfl)
 obtain ⟨fuel1, hf1⟩ := h1
 obtain ⟨pay1, hy1, hb1, hyn1, hyl1⟩ := open_bytes hf1
 obtain ⟨ia2, im2, ic2, rfl⟩ := okWide_slice Tryz.underlying29 (hval 2 29 v2 rfl rfl)
 obtain ⟨fuel2, hf2⟩ := h2
 obtain ⟨inp2, hu2, hw2, hun2, hul2⟩ := open_words hf2
 have lt0 := trodAll_lt _ _ _ _ hA1
 clear hA0 hval0 hsz0
 refine (law m0 sa0 sn0 sc0 pa1 pn1 pc1 pay1 ia2 im2 ic2 inp2 W hs0 hsl0 hm0 hy1 hb1 hyn1 hyl1 hu2 hw2 hun2 hul2 (lready_laid3 hL) ).mono fun e W' ⟨he, bel⟩ => ?_
 subst he
 exact ⟨_, rfl, _, _, _, [], _, [], hW', trodAll_mk1 (shut_bool Tryz.underlying4 _), below_trodAll laidOut bel _ _ _ _ (by kernel_rfl) hA1 lt0, rfl, bel.frame _, fun h => by cases h⟩

theorem said : Rows.LowerBackSaid :=
 OpenClaim.holds_of_wide 4 Tryz.f4 rfl rfl rfl rfl rfl rfl rfl ⟨rfl, rfl, rfl, rfl, rfl⟩ rfl rfl rfl rfl rfl found Tryz.func4 joined instanced wrapped
  (fun os started H enc _ => lifted os started H enc)

theorem plain (f : FuncId) (fn : Func) (hf : Tryz.pinned.checked.prog.funcNamed "busbar/busbarlaw15.LowerBack" = some f) (hfn : Tryz.pinned.checked.prog.funcs[f]? = some fn) :
    true = Tryz.pinned.checked.prog.looks [] ∧ ∀ (j : Nat) t, fn.params[j]? = some t → Tryz.pinned.checked.prog.wantsStandIn t = false := by
 obtain rfl : f = 4 := Option.some.inj (found.symm.trans hf) |>.symm
 obtain rfl : fn = Tryz.f4 := (Option.some.inj (Tryz.func4.symm.trans hfn)).symm
 refine ⟨by kernel_rfl, fun j t ht => ?_⟩
 rw [Tryz.params4] at ht
 have hm : t ∈ ([27, 28, 29] : List TypeId) := by simpa using Array.mem_of_getElem? ht
 have hall : (([27, 28, 29] : List TypeId).all fun u => !Tryz.prog.wantsStandIn u) = true := by kernel_rfl
 exact (show Tryz.prog.wantsStandIn t = false by simpa using List.all_eq_true.1 hall t hm)

theorem card : Rows.LowerBackCardSaid :=
 Claim7.holds_tied_plain_at .later [] _ _ _ _ said (fun _ h => by cases h) (by kernel_rfl) (fun _ h => by cases h) lowerBack_row_tie rfl ⟨rfl, rfl⟩ (by kernel_rfl) rfl plain (by kernel_rfl)
#print axioms card

end LawLowerBack
end Go.Proofs.YtdpjbnjlognmeaaGreatDoor
