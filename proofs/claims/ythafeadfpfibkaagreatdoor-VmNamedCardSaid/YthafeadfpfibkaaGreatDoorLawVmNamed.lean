/- 'VmNamed': with the registers named otherwise it is the same: the statement holds of every input. No condition beyond the card's own: the listed variables hold what the program's text lays. -/
import Derived.Test.YthafeadfpfibkaaGreatDoorFrame
import Derived.Test.YthafeadfpfibkaaGreatDoorDoor1
import Derived.Test.YthafeadfpfibkaaGreatDoorFactVmNamed
import Derived.Test.YthafeadfpfibkaaGreatDoorVmT
import Derived.Test.YthafeadfpfibkaaGreatDoorOpen2
import Derived.Test.YthafeadfpfibkaaGreatDoorMore
import Derived.Deep.MidRow
import Derived.Deep.RegionLaw
namespace Go.Proofs.YthafeadfpfibkaaGreatDoor
open Go.ChangeShapes Go.WideShapes Go.ChangeAt Go.RowKit Go.Proofs.YthafeadfpfibkaaGreatDoor.Code

namespace LawVmNamed

attribute [local go_sem ↓] Go.wp_at_zero Go.wp_at_succ

theorem named_vals (x : B.Ins) (k t : Int) (hr : x.right = true) (hk0 : 0 ≤ k) (hk1 : k < 16) (ht0 : 0 ≤ t) (ht1 : t ≤ 15) (w : World) :
    Calls Tryz.prog 19 #[.agg #[.int .i64 x.op, .int .i64 x.a, .int .i64 x.b, .int .i64 x.n, .int .u64 x.imm], .int .i64 k, .int .i64 t] w
      (fun e w' => e = .returned (.agg #[.int .i64 (x.ren (renT k t)).op, .int .i64 (x.ren (renT k t)).a, .int .i64 (x.ren (renT k t)).b, .int .i64 (x.ren (renT k t)).n, .int .u64 (x.ren (renT k t)).imm]) ∧ Below w.heap.size w w') := by
  exact named14_any x k t hr hk0 hk1 ht0 ht1 w

theorem ins_range {w : World} {b o : Nat} {x : B.Ins} (h : InsAt w b o x) : w.rangeAt b o (cellsI x) := by
  obtain ⟨h0, h1, h2, h3, h4⟩ := h
  intro j v hv
  have hj : j < 5 := by have := (List.getElem?_eq_some_iff.1 hv).1; rw [cellsI_length] at this; exact this
  have : j = 0 ∨ j = 1 ∨ j = 2 ∨ j = 3 ∨ j = 4 := by omega
  rcases this with rfl | rfl | rfl | rfl | rfl <;> (simp [cellsI] at hv; subst hv; assumption)

/-- .. the run of a program renamed tells the same -/
theorem same_ren {f : Int → Int} (hf : B.Renames f) {ps : List B.Ins} {pn im : Int} (ok : B.OkTouch ps pn im) {inp pay : List Nat} {m : Nat} {r : B.Out} (hq : B.run ps inp 0 (B.start pay m) = r) :
    Same r (B.run (ps.map (B.Ins.ren f)) inp 0 (B.start pay m)) ∧ (B.run (ps.map (B.Ins.ren f)) inp 0 (B.start pay m)).steps = r.steps := by
  have h := B.run_ren hf ok.mem (inp := inp) 0 (B.start pay m) (B.start pay m) ⟨rfl, rfl, rfl, fun _ _ => rfl⟩
  rw [hq] at h
  obtain ⟨h1, h2, h3⟩ := h
  refine ⟨⟨?_, ?_, ?_, ?_, ?_⟩, h2⟩
  · unfold fl; rw [h1]
  · unfold slotOf; rw [h1]
  · unfold payL; rw [h1, h3.pay]
  · unfold outL; rw [h1, h3.out]
  · unfold hasL; rw [h1, h3.has]
set_option maxRecDepth 100000 in
set_option maxHeartbeats 3200000 in
theorem law (a0 : Option Addr) (len0 cap0 : Nat) (ps0 : List B.Ins) (pa0 : Option Addr) (pn0 pc0 : Nat) (pay0 : List Nat) (ia0 : Option Addr) (im0 ic0 : Nat) (inp0 : List Nat) (n1 : Int) (n2 : Int) (w : World) (hp0 : ProgAt w a0 len0 ps0) (hwf0 : ∀ y ∈ ps0, y.Wf) (hn0 : a0 = none → cap0 = 0) (hl0 : len0 ≤ 9223372036854775807) (hy0 : ListAt w pa0 pn0 (pay0.map u8V)) (hb0 : B.Bytes pay0) (hyl0 : pn0 ≤ 9223372036854775807) (hu0 : ListAt w ia0 im0 (inp0.map u64V)) (hw0 : B.Words inp0) (hul0 : im0 ≤ 9223372036854775807) (hR : Tabs w) (hi1 : B.In64 n1) (hi2 : B.In64 n2) :
    Calls Tryz.prog 4 #[.agg #[.slice a0 len0 cap0, .slice pa0 pn0 pc0, .slice ia0 im0 ic0], .int .i64 n1, .int .i64 n2] w (BoolOut true w) := by
  have _U0 := Lib.hid hn0
  have _U2 := Lib.hid hyl0
  have _U3 := Lib.hid hul0
  have HP := Lib.hid hp0
  have HWF := Lib.hid hwf0
  have HY := Lib.hid hy0
  have HBY := Lib.hid hb0
  have HU := Lib.hid hu0
  have HW := Lib.hid hw0
  have HR := Lib.hid hR
  have HBX := Lib.hid ((Below.refl w.heap.size w).alloc (Nat.le_refl _) (.cells #[.slice a0 len0 cap0, .slice pa0 pn0 pc0, .slice ia0 im0 ic0] 26))
  have HBK := Lib.hid (heap_alloc_new w (.cells #[.slice a0 len0 cap0, .slice pa0 pn0 pc0, .slice ia0 im0 ic0] 26))
  have hrng := pickV_range n1 16 (by omega)
  have HPK := Lib.hid (pick_any n1 16 hi1 (by omega) (by omega))
  have hrng2 := pickV_range n2 8 (by omega)
  have HPK2 := Lib.hid (pick_any n2 8 hi2 (by omega) (by omega))
  clear hp0 hwf0 hn0 hy0 hb0 hyl0 hu0 hw0 hul0 hR hi1 hi2
  generalize pickV n1 16 = kk at *
  generalize pickV n2 8 = tt at *
  obtain ⟨kk0, kk1⟩ := hrng
  obtain ⟨tt0, tt1⟩ := hrng2
  have HTT : Hid (∃ m : Int, 0 ≤ m ∧ m < 8 ∧ 2 * tt + 1 = 2 * m + 1) := ⟨tt, tt0, tt1, rfl⟩
  have tw1 : IntKind.i64.wrap (2 * tt) = 2 * tt := IntWalk.i64_in _ (by omega)
  have tw2 : IntKind.i64.wrap (2 * tt + 1) = 2 * tt + 1 := IntWalk.i64_in _ (by omega)
  have HT1 := Lib.hid tw1
  have HT2 := Lib.hid tw2
  clear tw1 tw2
  by_cases hm : B.MayRun ps0 pn0 im0
  · have HM := Lib.hid hm
    have hlen : len0 ≤ 16384 := by rw [HP.out.len]; exact hm.len
    clear hm
    obtain ⟨r, hq⟩ : ∃ r, B.run ps0 inp0 0 (B.start pay0 im0) = r := ⟨_, rfl⟩
    have HQ := Lib.hid hq
    clear hq
    go_enter Tryz.func4, Tryz.ntmps4
    go_wp2_with fail
    refine (run_same (r := r) (Same.refl r) rfl a0 pa0 ia0 len0 cap0 pn0 pc0 im0 ic0 ps0 pay0 inp0 _ (HP.out.below HBX.out (Nat.le_refl _)) HWF.out (HR.out.below HBX.out (Nat.le_refl _)) hl0 HM.out (HY.out.below HBX.out (Nat.le_refl _)) (HU.out.below HBX.out (Nat.le_refl _)) HBY.out HW.out HQ.out).mono ?_
    rintro e w2 ⟨xa, xc, ya, yc, za, zc, rfl, o1, o2, o3, ⟨s1, s2, s3⟩, hb2⟩
    have HB2 := Lib.hid (HBX.out.trans (hb2.mono (by simp)))
    have HK2 := Lib.hid ((hb2.block w.heap.size (by simp)).trans HBK.out)
    have hs2 := HB2.out.size
    have hs02 : w.heap.size < w2.heap.size := lt_of_block HK2.out
    have O1 := Lib.hid o1
    have O2 := Lib.hid o2
    have O3 := Lib.hid o3
    clear o1 o2 o3 hb2
    go_wp2_with fail
    have hb3 := (Below.refl w2.heap.size w2).alloc (Nat.le_refl _) (.cells #[.bool (fl r), .int .i64 (slotOf r), .slice xa (payL r).length xc, .slice ya (outL r).length yc, .slice za (hasL r).length zc, .int .i64 (r.steps : Int)] 29)
    refine (works14_any _ ((HR.out.below HB2.out (Nat.le_refl _)).below hb3 (Nat.le_refl _))).mono ?_
    rintro e w4 ⟨rfl, hb4⟩
    have HA4 := Lib.hid ((hb4.block w2.heap.size (by simp)).trans (heap_alloc_new w2 _))
    have HB24 := Lib.hid (hb3.trans (hb4.mono (by simp)))
    have HB4 := Lib.hid (HB2.out.trans (HB24.out.mono hs2))
    have HK4 := Lib.hid ((HB24.out.block w.heap.size hs02).trans HK2.out)
    have hs4 := HB4.out.size
    have hs24 : w2.heap.size < w4.heap.size := lt_of_block HA4.out
    have hs04 : w.heap.size < w4.heap.size := lt_of_block HK4.out
    clear hb3 hb4
    go_wp2_with fail
    go_loopw [9, 10] (fun v i wr => ∃ (k : Nat) (ao : Option Addr) (cp : Nat), k ≤ len0 ∧ i = .int .i64 k ∧ v = .slice ao k cp ∧ OwnP wr w4.heap.size ao k cp ((ps0.take k).map (B.Ins.ren (renT kk (2 * tt + 1)))) ∧ Below w4.heap.size w4 wr)
      (fun _ i _ => len0 - (intOf i).toNat)
    case atStart => exact ⟨0, none, 0, Nat.zero_le _, rfl, rfl, OwnP.nil _ _, Below.refl _ _⟩
    case round =>
      obtain ⟨k, ao, cp, hk, rfl, rfl, hown, hb⟩ := hrel
      have HB := Lib.hid hb
      have HO := Lib.hid hown
      have hsz := hb.size
      have hbk := (hb.block w.heap.size hs04).trans HK4.out
      have g0 : wr.cell? ⟨w.heap.size, 0, none⟩ = some (.slice a0 len0 cap0) := (cell_of_row _ _ _ _ _ _ hbk).trans rfl
      have g1 : wr.cell? ⟨w.heap.size, 1, none⟩ = some (.slice pa0 pn0 pc0) := (cell_of_row _ _ _ _ _ _ hbk).trans rfl
      have g2 : wr.cell? ⟨w.heap.size, 2, none⟩ = some (.slice ia0 im0 ic0) := (cell_of_row _ _ _ _ _ _ hbk).trans rfl
      clear hb hown hbk
      by_cases hlt : k < len0
      · have hx : ps0[k]? = some (ps0[k]'(by have := HP.out.len; omega)) := List.getElem?_eq_getElem _
        generalize ps0[k]'(by have := HP.out.len; omega) = x at hx
        obtain ⟨b, off, rfl, hbl, hat⟩ := HP.out.at_ k x hx
        have HX := Lib.hid hx
        have HRX := Lib.hid (HM.out.ok.right k x hx)
        have HAT := Lib.hid (hat.below HB4.out hbl)
        have HC : Hid (w4.cell? ⟨w.heap.size, 0, none⟩ = some (.slice (some ⟨b, off, none⟩) len0 cap0)) := (cell_of_row _ _ _ _ _ _ HK4.out).trans rfl
        have hbr : b < w4.heap.size := by omega
        have jb0 : (0 : Int) ≤ (k : Int) := by omega
        have jb1 : (k : Int) < (len0 : Int) := by omega
        clear hx hat g1 g2
        go_wp2_with fail
        refine wp_region_held_drew (S := Below w4.heap.size w4) (by kernel_rfl) HB.out.drew (fun hS1 => ?_)
        refine take_slot (i := 0) (d := 37) (v := .slice ao k cp) rfl rfl (by kernel_rfl) (by kernel_rfl) (by kernel_rfl) (fun _ _ _ h => h) (Or.inl ⟨by rfl, fun w' _ => by go_simp⟩) hS1 ?_
        simp only [Act.put, List.setIfInBounds_toArray, List.set_cons_zero, List.set_cons_succ]
        refine take_slot (i := 1) (d := 38) (v := .pointer (some ⟨w.heap.size, 0, none⟩)) rfl rfl (by kernel_rfl) (by kernel_rfl) (by kernel_rfl) (fun _ _ _ h => h) (Or.inl ⟨by rfl, fun w' _ => by go_simp⟩) hS1 ?_
        simp only [Act.put, List.setIfInBounds_toArray, List.set_cons_zero, List.set_cons_succ]
        refine take_slot (i := 2) (d := 39) (v := .slice (some ⟨b, off, none⟩) len0 cap0) rfl rfl (by kernel_rfl) (by kernel_rfl) (by kernel_rfl) (fun _ _ _ h => h) (Or.inl ⟨by rfl, fun w' h => by have e := (h.cell (p := ⟨w.heap.size, 0, none⟩) hs04).trans HC.out; go_simp⟩) hS1 ?_
        simp only [Act.put, List.setIfInBounds_toArray, List.set_cons_zero, List.set_cons_succ]
        refine take_slot (i := 3) (d := 40) (v := .int .i64 (k : Int)) rfl rfl (by kernel_rfl) (by kernel_rfl) (by kernel_rfl) (fun _ _ _ h => h) (Or.inl ⟨by rfl, fun w' _ => by go_simp⟩) hS1 ?_
        simp only [Act.put, List.setIfInBounds_toArray, List.set_cons_zero, List.set_cons_succ]
        refine take_slot (i := 4) (d := 41) (v := .pointer (some ⟨b, off + k * 5, none⟩)) rfl rfl (by kernel_rfl) (by kernel_rfl) (by kernel_rfl) (fun _ _ _ h => h) (Or.inl ⟨by rfl, fun w' _ => by go_simp⟩) hS1 ?_
        simp only [Act.put, List.setIfInBounds_toArray, List.set_cons_zero, List.set_cons_succ]
        refine take_slot (i := 5) (d := 42) (v := .agg #[.int .i64 x.op, .int .i64 x.a, .int .i64 x.b, .int .i64 x.n, .int .u64 x.imm]) rfl rfl (by kernel_rfl) (by kernel_rfl) (by kernel_rfl) (fun _ _ _ h => h) (yieldsIf_load_mid (by rfl) _ _ rfl b (off + k * 5) (by rfl) (cellsI x) _ (fun w' h => ins_range (HAT.out.below h hbr)) Tryz.underlying38 rfl (by kernel_rfl)) hS1 ?_
        simp only [Act.put, List.setIfInBounds_toArray, List.set_cons_zero, List.set_cons_succ]
        refine take_slot (i := 6) (d := 43) (v := .int .i64 n1) rfl rfl (by kernel_rfl) (by kernel_rfl) (by kernel_rfl) (fun _ _ _ h => h) (Or.inl ⟨by rfl, fun w' _ => by go_simp⟩) hS1 ?_
        simp only [Act.put, List.setIfInBounds_toArray, List.set_cons_zero, List.set_cons_succ]
        refine take_slot (i := 8) (d := 45) (v := .int .i64 n2) rfl rfl (by kernel_rfl) (by kernel_rfl) (by kernel_rfl) (fun _ _ _ h => h) (Or.inl ⟨by rfl, fun w' _ => by go_simp⟩) hS1 ?_
        simp only [Act.put, List.setIfInBounds_toArray, List.set_cons_zero, List.set_cons_succ]
        refine wpAnyH_ready (rs := [7]) (by kernel_rfl) (by simp) ?_
        refine AllReadyH.cons rfl (fun K hK => ?_) AllReadyH.nil
        go_simp
        refine (HPK.out _).mono ?_
        rintro e w5 ⟨rfl, rfl⟩
        refine hK.out _ _ hS1 (fun hS2 => ?_)
        clear hK K
        refine wpAnyH_ready (rs := [9]) (by kernel_rfl) (by simp) ?_
        refine AllReadyH.cons rfl (fun K hK => ?_) AllReadyH.nil
        go_simp
        refine (HPK2.out _).mono ?_
        rintro e w5 ⟨rfl, rfl⟩
        refine hK.out _ _ hS1 (fun hS3 => ?_)
        clear hK K
        have tw1 := HT1.out
        have tw2 := HT2.out
        refine take_slot (i := 10) (d := 47) (v := .int .i64 (2 * tt)) rfl rfl (by kernel_rfl) (by kernel_rfl) (by kernel_rfl) (fun _ _ _ h => h) (Or.inl ⟨by rfl, fun w' _ => by go_simp⟩) hS1 ?_
        simp only [Act.put, List.setIfInBounds_toArray, List.set_cons_zero, List.set_cons_succ]
        refine take_slot (i := 11) (d := 48) (v := .int .i64 (2 * tt + 1)) rfl rfl (by kernel_rfl) (by kernel_rfl) (by kernel_rfl) (fun _ _ _ h => h) (Or.inl ⟨by rfl, fun w' _ => by go_simp⟩) hS1 ?_
        simp only [Act.put, List.setIfInBounds_toArray, List.set_cons_zero, List.set_cons_succ]
        clear tw1 tw2
        refine wpAnyH_ready (rs := [12]) (by kernel_rfl) (by simp) ?_
        refine AllReadyH.cons rfl (fun K hK => ?_) AllReadyH.nil
        go_simp
        refine (named_vals x kk (2 * tt + 1) HRX.out kk0 kk1 (by omega) (by omega) _).mono ?_
        rintro e w5 ⟨rfl, hb5⟩
        have hbr5 : Below wr.heap.size wr w5 := ((Below.refl _ wr).drew).trans hb5
        have hS4 := HB.out.trans (hbr5.mono hsz)
        refine hK.out _ _ hS4 (fun _ => ?_)
        clear hK K
        have hs5 := hS4.size
        have HX2 : Hid ((ps0.take (k + 1)).map (B.Ins.ren (renT kk (2 * tt + 1))) = (ps0.take k).map (B.Ins.ren (renT kk (2 * tt + 1))) ++ [x.ren (renT kk (2 * tt + 1))]) := by rw [take_snoc' _ _ _ HX.out, List.map_append]; rfl
        generalize x.ren (renT kk (2 * tt + 1)) = y at *
        refine wpAnyH_ready (rs := [13]) (by kernel_rfl) (by simp) ?_
        refine AllReadyH.cons rfl (fun K hK => ?_) AllReadyH.nil
        go_simp
        refine hK.out _ _ (hS4.alloc hs5 _) (fun hS5 => ?_)
        clear hK K
        refine wpAnyH_ready (rs := [14]) (by kernel_rfl) (by simp) ?_
        refine AllReadyH.cons rfl (fun K hK => ?_) AllReadyH.nil
        have HO5 := Lib.hid (((HO.out.kept hbr5).own).alloc (.cells #[.int .i64 y.op, .int .i64 y.a, .int .i64 y.b, .int .i64 y.n, .int .u64 y.imm] 38))
        refine step_app Tryz.underlying22 info38 rfl (by decide) rfl _ _ (by rfl) w4.heap.size (by rfl) HO5.out (by rfl) (heap_alloc_new w5 _) rfl rfl (by simp [Value.oneCell']) (by omega) (by omega) hS5.size ?_
        intro ao' cp' w6 hown6 _ hb6 hs6
        refine hK.out _ _ (hS5.trans hb6) (fun hS6 => ?_)
        clear hK K
        refine take_slot (i := 15) (d := 9) (v := .slice ao' (k + 1) cp') rfl rfl (by kernel_rfl) (by kernel_rfl) (by kernel_rfl) (fun _ _ _ h => h) (Or.inl ⟨by rfl, fun w' _ => by go_simp⟩) hS6 ?_
        simp only [Act.put, List.setIfInBounds_toArray, List.set_cons_succ]
        refine wpAnyH_done (by kernel_rfl) ?_ _
        have HO6 := Lib.hid hown6
        have HS6 := Lib.hid hS6
        have HLK := Lib.hid HO.out.len
        clear hown6 hS6 hb6 hS1 hS2 hS3 hS4 hS5 hb5 hbr5
        go_wp2_with fail
        go_roundw
        case rel => exact ⟨k + 1, ao', cp', by omega, by go_num, rfl, ⟨by rw [HX2.out, List.length_append, ← HLK.out]; rfl, by rw [HX2.out, cellsP_append, cellsP_one]; exact HO6.out⟩, HS6.out⟩
        case measure => simp [intOf]; omega
      · obtain rfl : k = len0 := by omega
        have HO1 : Hid (OwnP wr w4.heap.size ao k cp (ps0.map (B.Ins.ren (renT kk (2 * tt + 1))))) := by
          have := HO.out
          rw [List.take_of_length_le (by have := HP.out.len; omega)] at this
          exact this
        have HBw := Lib.hid (HB4.out.trans (HB.out.mono hs4))
        have HA6 := Lib.hid ((HB.out.block w2.heap.size hs24).trans HA4.out)
        have HB26 := Lib.hid (HB24.out.trans (HB.out.mono (by omega)))
        have HF := Lib.hid (renT_ok kk0 kk1 HTT.out)
        have HMQ := Lib.hid ((B.program_ok _ _ _).1 ((B.program_ren HF.out HM.out.ok).trans ((B.program_ok _ _ _).2 HM.out)))
        have hsr := same_ren HF.out HM.out.ok HQ.out
        have HS1 := Lib.hid hsr.1
        have HS2 := Lib.hid hsr.2
        have HWFQ : Hid (∀ y ∈ ps0.map (B.Ins.ren (renT kk (2 * tt + 1))), y.Wf) := by
          show ∀ y ∈ ps0.map (B.Ins.ren (renT kk (2 * tt + 1))), y.Wf
          intro y hy
          obtain ⟨x, hx, rfl⟩ := List.mem_map.1 hy
          exact renT_wf kk0 kk1 HTT.out (HM.out.ok.mem x hx)
        clear hsr HO
        go_wp2_with fail
        refine (run_same HS1.out HS2.out ao pa0 ia0 k cp pn0 pc0 im0 ic0 _ pay0 inp0 _ HO1.out.progAt HWFQ.out (HR.out.below HBw.out (Nat.le_refl _)) (by omega) HMQ.out (HY.out.below HBw.out (Nat.le_refl _)) (HU.out.below HBw.out (Nat.le_refl _)) HBY.out HW.out rfl).mono ?_
        rintro e w7 ⟨xa', xc', ya', yc', za', zc', rfl, o1, o2, o3, _, hb7⟩
        have hG : w7.heap[w2.heap.size]? = _ := (hb7.block w2.heap.size (by omega)).trans HA6.out
        have q0 : w7.cell? ⟨w2.heap.size, 0, none⟩ = some (.bool (fl r)) := by rw [cell_of_row _ _ _ _ _ _ hG]; rfl
        have q1 : w7.cell? ⟨w2.heap.size, 1, none⟩ = some (.int .i64 (slotOf r)) := by rw [cell_of_row _ _ _ _ _ _ hG]; rfl
        have q2 : w7.cell? ⟨w2.heap.size, 2, none⟩ = some (.slice xa (payL r).length xc) := by rw [cell_of_row _ _ _ _ _ _ hG]; rfl
        have q3 : w7.cell? ⟨w2.heap.size, 3, none⟩ = some (.slice ya (outL r).length yc) := by rw [cell_of_row _ _ _ _ _ _ hG]; rfl
        have q4 : w7.cell? ⟨w2.heap.size, 4, none⟩ = some (.slice za (hasL r).length zc) := by rw [cell_of_row _ _ _ _ _ _ hG]; rfl
        have q5 : w7.cell? ⟨w2.heap.size, 5, none⟩ = some (.int .i64 (r.steps : Int)) := by rw [cell_of_row _ _ _ _ _ _ hG]; rfl
        have P1 := Lib.hid o1
        have P2 := Lib.hid o2
        have P3 := Lib.hid o3
        have HB7 := Lib.hid (HBw.out.trans (hb7.mono (by omega)))
        have HB27 := Lib.hid (HB26.out.trans (hb7.mono (by omega)))
        have hX7 : w2.heap.size < w7.heap.size := lt_of_block hG
        clear hG o1 o2 o3 hb7
        go_wp2_with fail
        obtain ⟨w8, hw8⟩ : ∃ w8, (w7.alloc (.cells #[.bool (fl r), .int .i64 (slotOf r), .slice xa' (payL r).length xc', .slice ya' (outL r).length yc', .slice za' (hasL r).length zc', .int .i64 (r.steps : Int)] 29)) = w8 := ⟨_, rfl⟩
        rw [hw8]
        have hB8 : Below w2.heap.size w2 w8 := by rw [← hw8]; exact HB27.out.alloc (by omega) _
        have HB8 : Hid (Below w.heap.size w w8) := by rw [← hw8]; exact HB7.out.alloc (by omega) _
        have hpb : ∀ k, k < w7.heap.size → w8.heap[k]? = w7.heap[k]? := by
          intro k hk
          rw [← hw8]
          exact (World.grownBy_alloc _ _ none).block k hk (by simp)
        have A1 := Lib.hid ((ListAt.ofOwn O1.out).below hB8 (Nat.le_refl _))
        have A2 := Lib.hid ((ListAt.ofOwn O2.out).below hB8 (Nat.le_refl _))
        have A3 := Lib.hid ((ListAt.ofOwn O3.out).below hB8 (Nat.le_refl _))
        have B1 := Lib.hid (ListAt.ofOwn (ownsRow_of P1.out (fun k hk => hpb k (P1.out.lt k hk).2)))
        have B2 := Lib.hid (ListAt.ofOwn (ownsRow_of P2.out (fun k hk => hpb k (P2.out.lt k hk).2)))
        have B3 := Lib.hid (ListAt.ofOwn (ownsRow_of P3.out (fun k hk => hpb k (P3.out.lt k hk).2)))
        clear hw8 hB8 hpb q0 q1 q2 q3 q4 q5
        refine (sameRan_any (fl r) (slotOf r) (r.steps : Int) xa xa' ya ya' za za' _ xc xc' _ yc yc' _ zc zc' (payL r) (outL r) (hasL r) w8 A1.out B1.out A2.out B2.out A3.out B3.out ⟨by omega, by omega, by omega⟩).mono ?_
        rintro e w9 ⟨rfl, hb9⟩
        have HB9 := Lib.hid (HB8.out.trans (hb9.mono HB8.out.size))
        clear hb9
        go_wp2_with fail
        go_ret
        exact ⟨rfl, HB9.out⟩
  · have HM := Lib.hid hm
    obtain ⟨T, v, he⟩ := Er.shape _ (progEr_no hm)
    have HE := Lib.hid he
    clear hm he
    go_enter Tryz.func4, Tryz.ntmps4
    go_wp2_with fail
    refine (run_no a0 pa0 ia0 len0 cap0 pn0 pc0 im0 ic0 ps0 _ (HP.out.below HBX.out (Nat.le_refl _)) HWF.out (HR.out.below HBX.out (Nat.le_refl _)) hl0 HM.out).mono ?_
    rintro e w2 ⟨rfl, hb2⟩
    rw [HE.out]
    have HB2 := Lib.hid (HBX.out.trans (hb2.mono (by simp)))
    have hs2 := HB2.out.size
    clear hb2
    go_wp2_with fail
    have hb3 := (Below.refl w2.heap.size w2).alloc (Nat.le_refl _) (.cells #[.bool false, .int .i64 0, .slice none 0 0, .slice none 0 0, .slice none 0 0, .int .i64 0] 29)
    refine (works14_any _ ((HR.out.below HB2.out (Nat.le_refl _)).below hb3 (Nat.le_refl _))).mono ?_
    rintro e w4 ⟨rfl, hb4⟩
    have HB4 := Lib.hid (HB2.out.trans ((hb3.trans (hb4.mono (by simp))).mono hs2))
    clear hb3 hb4
    go_wp2_with fail
    refine (works14_any _ (HR.out.below HB4.out (Nat.le_refl _))).mono ?_
    rintro e w6 ⟨rfl, hb6⟩
    have HB6 := Lib.hid (HB4.out.trans (hb6.mono HB4.out.size))
    clear hb6
    go_wp2_with fail
    go_ret
    exact ⟨rfl, HB6.out⟩

set_option maxRecDepth 100000 in
theorem lifted (os : Os) (started : os.Started) (H : Type) (enc : TypeId × Value → H) :
    ReturnsInHanded {} Tryz.checked os 4 .any (fun w args => (Rows.vmNamedSpec.pre enc Tryz.prog Tryz.f4 Rows.vmNamedRow.domain false w args ∧ laidMetH Tryz.prog laid1 w) ∧ sizedMet enc Tryz.prog Tryz.f4 (OpenSpec.ofChange Rows.vmNamedSpec) false w args)
      (Rows.vmNamedSpec.post enc Tryz.prog Tryz.f4 false true false false) := by
  refine returnsInHanded_of_change_and (C := Tryz.checked) (X := fun w _ => laidMetH Tryz.prog laid1 w) (fun _ _ _ hh h => h.of_heap hh) own started (by kernel_rfl) Tryz.func4
    (ChangeSpec.witness_shaped (enc := enc) (C := Tryz.checked) (os := os) (X := fun w _ => laidMetH Tryz.prog laid1 w) false (World.doorLaid Tryz.prog 93 os) #[.agg #[.slice none 0 0, .slice none 0 0, .slice none 0 0], .int .i64 0, .int .i64 0] 8 rfl (World.shaped_of_RefB (by kernel_rfl) (by kernel_rfl)) (by kernel_rfl) (by kernel_rfl) (by kernel_rfl) (door_met1 os _)) ?_
  intro W base args ds gs before hval0 hW hcnd hsz0 hL _
  have hval : ∀ (j : Nat) t v, Tryz.f4.params[j]? = some t → args[j]? = some v → Value.okWide Tryz.prog W .any base t v := hval0
  have hsz : (DataW.weightsEach Tryz.prog (Tryz.f4.params.toList ++ Rows.vmNamedSpec.plain.varTypes Tryz.prog) (ds ++ gs)).all (· ≤ reachBytes) = true := hsz0
  have hW' := hW
  obtain ⟨p, q, hA0, hV, rfl, hfz, hnd⟩ := hW
  have hA : DataW.TrodAll enc Tryz.prog W 0 (fun _ => true) true Tryz.f4.params.toList args.toList ds p := hA0
  rw [Tryz.params4] at hA hval hsz
  have hA1 := hA
  obtain ⟨v0, vs0, d0, ds0, p0, q0, hargs, rfl, rfl, h0, r0⟩ := trodAll_cons hA
  obtain ⟨v1, vs1, d1, ds1, p1, q1, rfl, rfl, rfl, h1, r1⟩ := trodAll_cons r0
  obtain ⟨v2, vs2, d2, ds2, p2, q2, rfl, rfl, rfl, h2, r2⟩ := trodAll_cons r1
  obtain ⟨rfl, rfl, rfl⟩ := trodAll_nil r2
  obtain rfl : args = #[v0, v1, v2] := by cases args; simp_all
  obtain ⟨rfl, rfl⟩ := trodVars_none hV
  obtain ⟨a0, len0, cap0, ps0, pa0, pn0, pc0, pay0, ia0, im0, ic0, inp0, rfl, ⟨hp0, hwf0, hn0, hl0⟩, ⟨hy0, hb0, hyn0, hyl0⟩, hu0, hw0, hun0, hul0⟩ := open_case (hval 0 26 v0 rfl rfl) h0
  obtain ⟨n1, rfl, rfl, rfl, wf1⟩ := open_int Tryz.underlying3 (hval 1 3 v1 rfl rfl) h1
  obtain ⟨n2, rfl, rfl, rfl, wf2⟩ := open_int Tryz.underlying3 (hval 2 3 v2 rfl rfl) h2
  have lt0 := trodAll_lt _ _ _ _ hA1
  clear hA0 hval0 hsz0
  refine (law a0 len0 cap0 ps0 pa0 pn0 pc0 pay0 ia0 im0 ic0 inp0 n1 n2 W hp0 hwf0 hn0 hl0 hy0 hb0 hyl0 hu0 hw0 hul0 (tabs_laid1 hL) (wf_i64_in wf1) (wf_i64_in wf2)).mono fun e W' ⟨he, bel⟩ => ?_
  subst he
  exact ⟨_, rfl, _, _, _, [], _, [], hW', trodAll_mk1 (shut_bool Tryz.underlying4 _), below_trodAll laidOut bel _ _ _ _ (by kernel_rfl) hA1 lt0, rfl, bel.frame _, fun h => by cases h⟩

theorem said : Rows.VmNamedSaid :=
  OpenClaim.holds_of_wide 4 Tryz.f4 rfl rfl rfl rfl rfl rfl rfl ⟨rfl, rfl, rfl, rfl, rfl⟩ rfl rfl rfl rfl rfl found Tryz.func4 joined instanced wrapped
    (fun os started H enc _ => lifted os started H enc)

theorem plain (f : FuncId) (fn : Func) (hf : Tryz.pinned.checked.prog.funcNamed "busbar/busbarlaw14.VmNamed" = some f) (hfn : Tryz.pinned.checked.prog.funcs[f]? = some fn) :
    true = Tryz.pinned.checked.prog.looks [] ∧ ∀ (j : Nat) t, fn.params[j]? = some t → Tryz.pinned.checked.prog.wantsStandIn t = false := by
  obtain rfl : f = 4 := Option.some.inj (found.symm.trans hf) |>.symm
  obtain rfl : fn = Tryz.f4 := (Option.some.inj (Tryz.func4.symm.trans hfn)).symm
  refine ⟨by kernel_rfl, fun j t ht => ?_⟩
  rw [Tryz.params4] at ht
  have hm : t ∈ ([26, 3, 3] : List TypeId) := by simpa using Array.mem_of_getElem? ht
  have hall : (([26, 3, 3] : List TypeId).all fun u => !Tryz.prog.wantsStandIn u) = true := by kernel_rfl
  exact (show Tryz.prog.wantsStandIn t = false by simpa using List.all_eq_true.1 hall t hm)

theorem card : Rows.VmNamedCardSaid :=
  Claim7.holds_tied_plain_at .later [] _ _ _ _ said (fun _ h => by cases h) (by kernel_rfl) (fun _ h => by cases h) vmNamed_row_tie rfl ⟨rfl, rfl⟩ (by kernel_rfl) rfl plain (by kernel_rfl)
#print axioms card

end LawVmNamed
end Go.Proofs.YthafeadfpfibkaaGreatDoor
