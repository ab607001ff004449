/- 'VmSkips': what a skip passes over says nothing: the statement holds of every input. No condition beyond the card's own: the listed variables hold what the program's text lays. -/
import Derived.Test.YthafeadfpfibkaaGreatDoorFrame
import Derived.Test.YthafeadfpfibkaaGreatDoorDoor1
import Derived.Test.YthafeadfpfibkaaGreatDoorFactVmSkips
import Derived.Test.YthafeadfpfibkaaGreatDoorVmT
import Derived.Test.YthafeadfpfibkaaGreatDoorOpen2
import Derived.Test.YthafeadfpfibkaaGreatDoorPlainV
import Derived.Test.YthafeadfpfibkaaGreatDoorMore
namespace Go.Proofs.YthafeadfpfibkaaGreatDoor
open Go.ChangeShapes Go.WideShapes Go.ChangeAt Go.RowKit Go.Proofs.YthafeadfpfibkaaGreatDoor.Code

namespace LawVmSkips

attribute [local go_sem ↓] Go.wp_at_zero Go.wp_at_succ

theorem skip_wf (n : Nat) (h : n ≤ 3518437208780) : (⟨18, 0, 0, n, 0⟩ : B.Ins).Wf := by
  refine ⟨⟨?_, ?_⟩, ⟨?_, ?_⟩, ⟨?_, ?_⟩, ⟨?_, ?_⟩, ⟨?_, ?_⟩⟩ <;> simp <;> omega
set_option maxRecDepth 100000 in
set_option maxHeartbeats 3200000 in
theorem law (a0 : Option Addr) (len0 cap0 : Nat) (ps0 : List B.Ins) (pa0 : Option Addr) (pn0 pc0 : Nat) (pay0 : List Nat) (ia0 : Option Addr) (im0 ic0 : Nat) (inp0 : List Nat) (a1 : Option Addr) (len1 cap1 : Nat) (ps1 : List B.Ins) (w : World) (hp0 : ProgAt w a0 len0 ps0) (hwf0 : ∀ y ∈ ps0, y.Wf) (hn0 : a0 = none → cap0 = 0) (hl0 : len0 ≤ 9223372036854775807) (hy0 : ListAt w pa0 pn0 (pay0.map u8V)) (hb0 : B.Bytes pay0) (hyl0 : pn0 ≤ 9223372036854775807) (hu0 : ListAt w ia0 im0 (inp0.map u64V)) (hw0 : B.Words inp0) (hul0 : im0 ≤ 9223372036854775807) (hp1 : ProgAt w a1 len1 ps1) (hwf1 : ∀ y ∈ ps1, y.Wf) (hl1 : len1 * 40 ≤ 140737488351232) (hn1 : a1 = none → cap1 = 0) (hR : Tabs w) :
    Calls Tryz.prog 5 #[.agg #[.slice a0 len0 cap0, .slice pa0 pn0 pc0, .slice ia0 im0 ic0], .slice a1 len1 cap1] w (BoolOut true w) := by
  have _U0 := Lib.hid hn0
  have _U1 := Lib.hid hn1
  have _U2 := Lib.hid hyl0
  have _U3 := Lib.hid hul0
  have HP := Lib.hid hp0
  have HWF := Lib.hid hwf0
  have HY := Lib.hid hy0
  have HBY := Lib.hid hb0
  have HU := Lib.hid hu0
  have HW := Lib.hid hw0
  have HP1 := Lib.hid hp1
  have HWF1 := Lib.hid hwf1
  have HR := Lib.hid hR
  have hlw1 : len1 ≤ 3518437208780 := by omega
  have HBX := Lib.hid ((Below.refl w.heap.size w).alloc (Nat.le_refl _) (.cells #[.slice a0 len0 cap0, .slice pa0 pn0 pc0, .slice ia0 im0 ic0] 26))
  clear hp0 hwf0 hn0 hy0 hb0 hyl0 hu0 hw0 hul0 hp1 hwf1 hl1 hn1 hR
  by_cases hm : B.MayRun ps0 pn0 im0
  · have HM := Lib.hid hm
    have hlen : len0 ≤ 16384 := by rw [HP.out.len]; exact hm.len
    clear hm
    obtain ⟨r, hq⟩ : ∃ r, B.run ps0 inp0 0 (B.start pay0 im0) = r := ⟨_, rfl⟩
    have HQ := Lib.hid hq
    clear hq
    go_enter Tryz.func5, Tryz.ntmps5
    go_wp2_with fail
    refine (run_same (r := r) (Same.refl r) rfl a0 pa0 ia0 len0 cap0 pn0 pc0 im0 ic0 ps0 pay0 inp0 _ (HP.out.below HBX.out (Nat.le_refl _)) HWF.out (HR.out.below HBX.out (Nat.le_refl _)) hl0 HM.out (HY.out.below HBX.out (Nat.le_refl _)) (HU.out.below HBX.out (Nat.le_refl _)) HBY.out HW.out HQ.out).mono ?_
    rintro e w2 ⟨xa, xc, ya, yc, za, zc, rfl, o1, o2, o3, ⟨s1, s2, s3⟩, hb2⟩
    have HB2 := Lib.hid (HBX.out.trans (hb2.mono (by simp)))
    have hs2 := HB2.out.size
    have O1 := Lib.hid o1
    have O2 := Lib.hid o2
    have O3 := Lib.hid o3
    clear o1 o2 o3 hb2
    go_wp2_with fail
    have hb3 := (Below.refl w2.heap.size w2).alloc (Nat.le_refl _) (.cells #[.bool (fl r), .int .i64 (slotOf r), .slice xa (payL r).length xc, .slice ya (outL r).length yc, .slice za (hasL r).length zc, .int .i64 (r.steps : Int)] 29)
    refine (works14_any _ ((HR.out.below HB2.out (Nat.le_refl _)).below hb3 (Nat.le_refl _))).mono ?_
    rintro e w4 ⟨rfl, hb4⟩
    have HA4 := Lib.hid ((hb4.block w2.heap.size (by simp)).trans (heap_alloc_new w2 _))
    have HB24 := Lib.hid (hb3.trans (hb4.mono (by simp)))
    have HB4 := Lib.hid (HB2.out.trans (HB24.out.mono hs2))
    have hs4 := HB4.out.size
    have hs24 : w2.heap.size + 1 ≤ w4.heap.size := by have := hb4.size; simpa using this
    clear hb3 hb4
    by_cases hsum : len0 + len1 + 1 ≤ 16384
    · by_cases hm : B.MayRun ps1 pn0 im0
      · have HM1 := Lib.hid hm
        clear hm
        go_wp2_with fail
        refine (program_yes a1 len1 cap1 ps1 pn0 im0 _ (HP1.out.below HB4.out (Nat.le_refl _)) HWF1.out (HR.out.below HB4.out (Nat.le_refl _)) (by omega) HM1.out).mono ?_
        rintro e w5 ⟨rfl, hb5⟩
        have HA5 := Lib.hid ((hb5.block w2.heap.size (by omega)).trans HA4.out)
        have HB5 := Lib.hid (HB4.out.trans (hb5.mono hs4))
        have HB25 := Lib.hid (HB24.out.trans (hb5.mono (by omega)))
        have hs5 := HB5.out.size
        have hs25 : w2.heap.size + 1 ≤ w5.heap.size := by have := hb5.size; omega
        clear hb5
        go_wp2_with fail
        go_loopw [10, 11] (fun v i wr => ∃ (k : Nat) (ao : Option Addr) (cp : Nat), k ≤ len1 ∧ i = .int .i64 k ∧ v = .slice ao (k + 1) cp ∧ OwnP wr w5.heap.size ao (k + 1) cp (⟨18, 0, 0, len1, 0⟩ :: ps1.take k) ∧ Below w5.heap.size w5 wr)
          (fun _ i _ => len1 - (intOf i).toNat)
        case atStart => exact ⟨0, some ⟨w5.heap.size, 0, none⟩, 1, Nat.zero_le _, rfl, rfl, ownP_new ⟨18, 0, 0, len1, 0⟩ w5 w5.heap.size w5.heap.size (Nat.le_refl _) rfl, (Below.refl _ _).alloc (Nat.le_refl _) _⟩
        case round =>
          obtain ⟨k, ao, cp, hk, rfl, rfl, hown, hb⟩ := hrel
          have HO := Lib.hid hown
          have HBr := Lib.hid hb
          have hsz := hb.size
          clear hown hb
          by_cases hlt : k < len1
          · have hx : ps1[k]? = some (ps1[k]'(by have := HP1.out.len; omega)) := List.getElem?_eq_getElem _
            generalize ps1[k]'(by have := HP1.out.len; omega) = x at hx
            obtain ⟨b, off, rfl, hbl, hat⟩ := HP1.out.at_ k x hx
            obtain ⟨h0, h1, h2, h3, h4⟩ := hat.below (HB5.out.trans (HBr.out.mono hs5)) hbl
            have HX := Lib.hid hx
            clear hx hat hbl
            go_wp2_with (at_builtin; refine app_ins rfl _ _ rfl w5.heap.size rfl HO.out rfl (by omega) (by omega) ?_; intro ao' cp' w6 hown6 hb6 hs6)
            go_roundw
            case rel => exact ⟨k + 1, ao', cp', by omega, by go_num, rfl, by rw [take_snoc' _ _ _ HX.out]; exact hown6, HBr.out.trans hb6⟩
            case measure => simp [intOf]; omega
          · obtain rfl : k = len1 := by omega
            have HO1 : Hid (OwnP wr w5.heap.size ao (k + 1) cp (⟨18, 0, 0, k, 0⟩ :: ps1)) := by
              have := HO.out
              rw [List.take_of_length_le (by have := HP1.out.len; omega)] at this
              exact this
            obtain ⟨wo, hwo⟩ : ∃ wo : World, wo = wr := ⟨_, rfl⟩
            subst hwo
            clear HO
            go_wp2_with fail
            go_loopw [10, 12] (fun v i wr => ∃ (j : Nat) (ao : Option Addr) (cp : Nat), j ≤ len0 ∧ i = .int .i64 j ∧ v = .slice ao (k + 1 + j) cp ∧ OwnP wr w5.heap.size ao (k + 1 + j) cp ((⟨18, 0, 0, k, 0⟩ :: ps1) ++ ps0.take j) ∧ Below w5.heap.size w5 wr)
              (fun _ i _ => len0 - (intOf i).toNat)
            case atStart => exact ⟨0, ao, cp, Nat.zero_le _, rfl, rfl, by rw [List.take_zero, List.append_nil]; exact HO1.out, HBr.out⟩
            case round =>
              obtain ⟨j, ao2, cp2, hj, rfl, rfl, hown, hb⟩ := hrel
              have HO := Lib.hid hown
              have HBq := Lib.hid hb
              have hszq := hb.size
              clear hown hb
              by_cases hltj : j < len0
              · have hx : ps0[j]? = some (ps0[j]'(by have := HP.out.len; omega)) := List.getElem?_eq_getElem _
                generalize ps0[j]'(by have := HP.out.len; omega) = x at hx
                obtain ⟨b, off, rfl, hbl, hat⟩ := HP.out.at_ j x hx
                obtain ⟨h0, h1, h2, h3, h4⟩ := hat.below (HB5.out.trans (HBq.out.mono hs5)) hbl
                have HX := Lib.hid hx
                clear hx hat hbl
                go_wp2_with (at_builtin; refine app_ins rfl _ _ rfl w5.heap.size rfl HO.out rfl (by omega) (by omega) ?_; intro ao' cp' w6 hown6 hb6 hs6)
                go_roundw
                case rel => exact ⟨j + 1, ao', cp', by omega, by go_num, rfl, by rw [take_snoc' _ _ _ HX.out, ← List.append_assoc]; exact hown6, HBq.out.trans hb6⟩
                case measure => simp [intOf]; omega
              · obtain rfl : j = len0 := by omega
                have HO2 : Hid (OwnP wr w5.heap.size ao2 (k + 1 + j) cp2 (⟨18, 0, 0, k, 0⟩ :: (ps1 ++ ps0))) := by
                  have := HO.out
                  rw [List.take_of_length_le (by have := HP.out.len; omega)] at this
                  exact this
                have HBw := Lib.hid (HB5.out.trans (HBq.out.mono hs5))
                have HA6 := Lib.hid ((HBq.out.block w2.heap.size (by omega)).trans HA5.out)
                have hs6 : w5.heap.size ≤ wr.heap.size := hszq
                have HMQ : Hid (B.MayRun (⟨18, 0, 0, k, 0⟩ :: (ps1 ++ ps0)) pn0 im0) := by
                  have h1 := HP1.out.len
                  have h0 := HP.out.len
                  show B.MayRun _ _ _
                  rw [h1]
                  exact HM.out.passed' HM1.out.ok (by omega)
                have HRQ : Hid (B.run (⟨18, 0, 0, k, 0⟩ :: (ps1 ++ ps0)) inp0 0 (B.start pay0 im0) = ⟨r.failed, r.st, r.steps + 1⟩) := by
                  have h1 := HP1.out.len
                  show B.run _ _ _ _ = _
                  rw [h1, B.run_skip, HQ.out]
                have HWFQ : Hid (∀ y ∈ (⟨18, 0, 0, k, 0⟩ :: (ps1 ++ ps0) : List B.Ins), y.Wf) := by
                  show ∀ y ∈ (⟨18, 0, 0, k, 0⟩ :: (ps1 ++ ps0) : List B.Ins), y.Wf
                  intro y hy
                  rcases List.mem_cons.1 hy with rfl | hy
                  · exact skip_wf k hlw1
                  · rcases List.mem_append.1 hy with h | h
                    · exact HWF1.out y h
                    · exact HWF.out y h
                clear HO hszq
                go_wp2_with fail
                refine (run_same (r := r) (r' := ⟨r.failed, r.st, r.steps + 1⟩) (n := r.steps + 1) ⟨rfl, rfl, rfl, rfl, rfl⟩ rfl ao2 pa0 ia0 (k + 1 + j) cp2 pn0 pc0 im0 ic0 _ pay0 inp0 _ HO2.out.progAt HWFQ.out (HR.out.below HBw.out (Nat.le_refl _)) (by omega) HMQ.out (HY.out.below HBw.out (Nat.le_refl _)) (HU.out.below HBw.out (Nat.le_refl _)) HBY.out HW.out HRQ.out).mono ?_
                rintro e w7 ⟨xa', xc', ya', yc', za', zc', rfl, o1, o2, o3, _, hb7⟩
                have hG : w7.heap[w2.heap.size]? = _ := (hb7.block w2.heap.size (by omega)).trans HA6.out
                have q0 : w7.cell? ⟨w2.heap.size, 0, none⟩ = some (.bool (fl r)) := by rw [cell_of_row _ _ _ _ _ _ hG]; rfl
                have q1 : w7.cell? ⟨w2.heap.size, 1, none⟩ = some (.int .i64 (slotOf r)) := by rw [cell_of_row _ _ _ _ _ _ hG]; rfl
                have q2 : w7.cell? ⟨w2.heap.size, 2, none⟩ = some (.slice xa (payL r).length xc) := by rw [cell_of_row _ _ _ _ _ _ hG]; rfl
                have q3 : w7.cell? ⟨w2.heap.size, 3, none⟩ = some (.slice ya (outL r).length yc) := by rw [cell_of_row _ _ _ _ _ _ hG]; rfl
                have q4 : w7.cell? ⟨w2.heap.size, 4, none⟩ = some (.slice za (hasL r).length zc) := by rw [cell_of_row _ _ _ _ _ _ hG]; rfl
                have q5 : w7.cell? ⟨w2.heap.size, 5, none⟩ = some (.int .i64 (r.steps : Int)) := by rw [cell_of_row _ _ _ _ _ _ hG]; rfl
                have f5 : w7.frozen? ⟨w2.heap.size, 5, none⟩ = false := frozen_blk hG
                have hX7 : w2.heap.size < w7.heap.size := lt_of_block hG
                have HG7 := Lib.hid hG
                have P1 := Lib.hid o1
                have P2 := Lib.hid o2
                have P3 := Lib.hid o3
                have HB7 := Lib.hid (HBw.out.trans (hb7.mono (by omega)))
                have HB27 := Lib.hid (HB25.out.trans ((HBq.out.mono (by omega)).trans (hb7.mono (by omega))))
                have hrs : r.steps ≤ 16384 := by have := B.steps_le ps0 inp0 0 (B.start pay0 im0); rw [HQ.out] at this; have := HP.out.len; omega
                clear hG o1 o2 o3 hb7
                go_wp2_with fail
                obtain ⟨w8, hw8⟩ : ∃ w8, ((w7.setCell ⟨w2.heap.size, 5, none⟩ (.int .i64 ((r.steps : Int) + 1))).alloc (.cells #[.bool (fl r), .int .i64 (slotOf r), .slice xa' (payL r).length xc', .slice ya' (outL r).length yc', .slice za' (hasL r).length zc', .int .i64 ((r.steps : Int) + 1)] 29)) = w8 := ⟨_, rfl⟩
                rw [hw8]
                have hB8 : Below w2.heap.size w2 w8 := by rw [← hw8]; exact (HB27.out.setCell (Nat.le_refl _) _).alloc (by simp; omega) _
                have HB8 : Hid (Below w.heap.size w w8) := by rw [← hw8]; exact (HB7.out.setCell hs2 _).alloc (by simp; omega) _
                have hpb : ∀ k, wr.heap.size ≤ k ∧ k < w7.heap.size → w8.heap[k]? = w7.heap[k]? := by
                  intro k hk
                  rw [← hw8]
                  exact ((World.grownBy_alloc _ _ none).block k (by simp; omega) (by simp)).trans (blk_other _ (by show k ≠ w2.heap.size; omega))
                have A1 := Lib.hid ((ListAt.ofOwn O1.out).below hB8 (Nat.le_refl _))
                have A2 := Lib.hid ((ListAt.ofOwn O2.out).below hB8 (Nat.le_refl _))
                have A3 := Lib.hid ((ListAt.ofOwn O3.out).below hB8 (Nat.le_refl _))
                have B1 := Lib.hid (ListAt.ofOwn (ownsRow_of P1.out (fun k hk => hpb k (P1.out.lt k hk))))
                have B2 := Lib.hid (ListAt.ofOwn (ownsRow_of P2.out (fun k hk => hpb k (P2.out.lt k hk))))
                have B3 := Lib.hid (ListAt.ofOwn (ownsRow_of P3.out (fun k hk => hpb k (P3.out.lt k hk))))
                clear hw8 hB8 hpb q0 q1 q2 q3 q4 q5 f5
                refine (sameRan_any (fl r) (slotOf r) ((r.steps : Int) + 1) xa xa' ya ya' za za' _ xc xc' _ yc yc' _ zc zc' (payL r) (outL r) (hasL r) w8 A1.out B1.out A2.out B2.out A3.out B3.out ⟨by omega, by omega, by omega⟩).mono ?_
                rintro e w9 ⟨rfl, hb9⟩
                have HB9 := Lib.hid (HB8.out.trans (hb9.mono HB8.out.size))
                clear hb9
                go_wp2_with fail
                go_ret
                exact ⟨rfl, HB9.out⟩
      · have HM1 := Lib.hid hm
        clear hm
        go_wp2_with fail
        refine (program_no a1 len1 cap1 ps1 pn0 im0 _ (HP1.out.below HB4.out (Nat.le_refl _)) HWF1.out (HR.out.below HB4.out (Nat.le_refl _)) (by omega) HM1.out).mono ?_
        rintro e w5 ⟨⟨T, v, rfl⟩, hb5⟩
        have HB5 := Lib.hid (HB4.out.trans (hb5.mono hs4))
        clear hb5
        go_wp2_with fail
        refine (works14_any _ (HR.out.below HB5.out (Nat.le_refl _))).mono ?_
        rintro e w6 ⟨rfl, hb6⟩
        have HB6 := Lib.hid (HB5.out.trans (hb6.mono HB5.out.size))
        clear hb6
        go_wp2_with fail
        go_ret
        exact ⟨rfl, HB6.out⟩
    · go_wp2_with fail
      refine (works14_any _ (HR.out.below HB4.out (Nat.le_refl _))).mono ?_
      rintro e w6 ⟨rfl, hb6⟩
      have HB6 := Lib.hid (HB4.out.trans (hb6.mono hs4))
      clear hb6
      go_wp2_with fail
      go_ret
      exact ⟨rfl, HB6.out⟩
  · have HM := Lib.hid hm
    obtain ⟨T, v, he⟩ := Er.shape _ (progEr_no hm)
    have HE := Lib.hid he
    clear hm he
    go_enter Tryz.func5, Tryz.ntmps5
    go_wp2_with fail
    refine (run_no a0 pa0 ia0 len0 cap0 pn0 pc0 im0 ic0 ps0 _ (HP.out.below HBX.out (Nat.le_refl _)) HWF.out (HR.out.below HBX.out (Nat.le_refl _)) hl0 HM.out).mono ?_
    rintro e w2 ⟨rfl, hb2⟩
    rw [HE.out]
    have HB2 := Lib.hid (HBX.out.trans (hb2.mono (by simp)))
    have hs2 := HB2.out.size
    clear hb2
    go_wp2_with fail
    have hb3 := (Below.refl w2.heap.size w2).alloc (Nat.le_refl _) (.cells #[.bool false, .int .i64 0, .slice none 0 0, .slice none 0 0, .slice none 0 0, .int .i64 0] 29)
    refine (works14_any _ ((HR.out.below HB2.out (Nat.le_refl _)).below hb3 (Nat.le_refl _))).mono ?_
    rintro e w4 ⟨rfl, hb4⟩
    have HB4 := Lib.hid (HB2.out.trans ((hb3.trans (hb4.mono (by simp))).mono hs2))
    clear hb3 hb4
    go_wp2_with fail
    refine (works14_any _ (HR.out.below HB4.out (Nat.le_refl _))).mono ?_
    rintro e w6 ⟨rfl, hb6⟩
    have HB6 := Lib.hid (HB4.out.trans (hb6.mono HB4.out.size))
    clear hb6
    go_wp2_with fail
    go_ret
    exact ⟨rfl, HB6.out⟩

set_option maxRecDepth 100000 in
theorem lifted (os : Os) (started : os.Started) (H : Type) (enc : TypeId × Value → H) :
    ReturnsInHanded {} Tryz.checked os 5 .any (fun w args => (Rows.vmSkipsSpec.pre enc Tryz.prog Tryz.f5 Rows.vmSkipsRow.domain false w args ∧ laidMetH Tryz.prog laid1 w) ∧ sizedMet enc Tryz.prog Tryz.f5 (OpenSpec.ofChange Rows.vmSkipsSpec) false w args)
      (Rows.vmSkipsSpec.post enc Tryz.prog Tryz.f5 false true false false) := by
  refine returnsInHanded_of_change_and (C := Tryz.checked) (X := fun w _ => laidMetH Tryz.prog laid1 w) (fun _ _ _ hh h => h.of_heap hh) own started (by kernel_rfl) Tryz.func5
    (ChangeSpec.witness_shaped (enc := enc) (C := Tryz.checked) (os := os) (X := fun w _ => laidMetH Tryz.prog laid1 w) false (World.doorLaid Tryz.prog 93 os) #[.agg #[.slice none 0 0, .slice none 0 0, .slice none 0 0], .slice none 0 0] 8 rfl (World.shaped_of_RefB (by kernel_rfl) (by kernel_rfl)) (by kernel_rfl) (by kernel_rfl) (by kernel_rfl) (door_met1 os _)) ?_
  intro W base args ds gs before hval0 hW hcnd hsz0 hL _
  have hval : ∀ (j : Nat) t v, Tryz.f5.params[j]? = some t → args[j]? = some v → Value.okWide Tryz.prog W .any base t v := hval0
  have hsz : (DataW.weightsEach Tryz.prog (Tryz.f5.params.toList ++ Rows.vmSkipsSpec.plain.varTypes Tryz.prog) (ds ++ gs)).all (· ≤ reachBytes) = true := hsz0
  have hW' := hW
  obtain ⟨p, q, hA0, hV, rfl, hfz, hnd⟩ := hW
  have hA : DataW.TrodAll enc Tryz.prog W 0 (fun _ => true) true Tryz.f5.params.toList args.toList ds p := hA0
  rw [Tryz.params5] at hA hval hsz
  have hA1 := hA
  obtain ⟨v0, vs0, d0, ds0, p0, q0, hargs, rfl, rfl, h0, r0⟩ := trodAll_cons hA
  obtain ⟨v1, vs1, d1, ds1, p1, q1, rfl, rfl, rfl, h1, r1⟩ := trodAll_cons r0
  obtain ⟨rfl, rfl, rfl⟩ := trodAll_nil r1
  obtain rfl : args = #[v0, v1] := by cases args; simp_all
  obtain ⟨rfl, rfl⟩ := trodVars_none hV
  obtain ⟨a0, len0, cap0, ps0, pa0, pn0, pc0, pay0, ia0, im0, ic0, inp0, rfl, ⟨hp0, hwf0, hn0, hl0⟩, ⟨hy0, hb0, hyn0, hyl0⟩, hu0, hw0, hun0, hul0⟩ := open_case (hval 0 26 v0 rfl rfl) h0
  obtain ⟨a1, len1, cap1, rfl⟩ := okWide_slice Tryz.underlying22 (hval 1 22 v1 rfl rfl)
  obtain ⟨fuel1, hf1⟩ := h1
  have hn1 := open_nil hf1
  obtain ⟨ps1, hp1, hwf1, hreach1⟩ := open_prog hf1
  have hr1 := hreach1 _ _ 1 hsz rfl rfl
  have lt0 := trodAll_lt _ _ _ _ hA1
  clear hA0 hval0 hsz0
  refine (law a0 len0 cap0 ps0 pa0 pn0 pc0 pay0 ia0 im0 ic0 inp0 a1 len1 cap1 ps1 W hp0 hwf0 hn0 hl0 hy0 hb0 hyl0 hu0 hw0 hul0 hp1 hwf1 hr1 hn1 (tabs_laid1 hL) ).mono fun e W' ⟨he, bel⟩ => ?_
  subst he
  exact ⟨_, rfl, _, _, _, [], _, [], hW', trodAll_mk1 (shut_bool Tryz.underlying4 _), below_trodAll laidOut bel _ _ _ _ (by kernel_rfl) hA1 lt0, rfl, bel.frame _, fun h => by cases h⟩

theorem said : Rows.VmSkipsSaid :=
  OpenClaim.holds_of_wide 5 Tryz.f5 rfl rfl rfl rfl rfl rfl rfl ⟨rfl, rfl, rfl, rfl, rfl⟩ rfl rfl rfl rfl rfl found Tryz.func5 joined instanced wrapped
    (fun os started H enc _ => lifted os started H enc)

theorem plain (f : FuncId) (fn : Func) (hf : Tryz.pinned.checked.prog.funcNamed "busbar/busbarlaw14.VmSkips" = some f) (hfn : Tryz.pinned.checked.prog.funcs[f]? = some fn) :
    true = Tryz.pinned.checked.prog.looks [] ∧ ∀ (j : Nat) t, fn.params[j]? = some t → Tryz.pinned.checked.prog.wantsStandIn t = false := by
  obtain rfl : f = 5 := Option.some.inj (found.symm.trans hf) |>.symm
  obtain rfl : fn = Tryz.f5 := (Option.some.inj (Tryz.func5.symm.trans hfn)).symm
  refine ⟨by kernel_rfl, fun j t ht => ?_⟩
  rw [Tryz.params5] at ht
  have hm : t ∈ ([26, 22] : List TypeId) := by simpa using Array.mem_of_getElem? ht
  have hall : (([26, 22] : List TypeId).all fun u => !Tryz.prog.wantsStandIn u) = true := by kernel_rfl
  exact (show Tryz.prog.wantsStandIn t = false by simpa using List.all_eq_true.1 hall t hm)

theorem card : Rows.VmSkipsCardSaid :=
  Claim7.holds_tied_plain_at .later [] _ _ _ _ said (fun _ h => by cases h) (by kernel_rfl) (fun _ h => by cases h) vmSkips_row_tie rfl ⟨rfl, rfl⟩ (by kernel_rfl) rfl plain (by kernel_rfl)
#print axioms card

end LawVmSkips
end Go.Proofs.YthafeadfpfibkaaGreatDoor
