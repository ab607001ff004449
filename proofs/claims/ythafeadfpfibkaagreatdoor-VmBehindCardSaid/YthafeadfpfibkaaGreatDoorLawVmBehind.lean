/- 'VmBehind': two programs, one behind the other: the statement holds of every input. No condition beyond the card's own: the listed variables hold what the program's text lays. -/
import Derived.Test.YthafeadfpfibkaaGreatDoorFrame
import Derived.Test.YthafeadfpfibkaaGreatDoorDoor1
import Derived.Test.YthafeadfpfibkaaGreatDoorFactVmBehind
import Derived.Test.YthafeadfpfibkaaGreatDoorVmT
import Derived.Test.YthafeadfpfibkaaGreatDoorOpen2
import Derived.Test.YthafeadfpfibkaaGreatDoorPlainV
import Derived.Test.YthafeadfpfibkaaGreatDoorMore
import Derived.Deep.QuietTactic
import Derived.BigQuiet
namespace Go.Proofs.YthafeadfpfibkaaGreatDoor
open Go.ChangeShapes Go.WideShapes Go.ChangeAt Go.RowKit Go.Proofs.YthafeadfpfibkaaGreatDoor.Code

namespace LawVmBehind

attribute [local go_sem ↓] Go.wp_at_zero Go.wp_at_succ

def NoHalt (ps : List B.Ins) : Prop := ∀ x ∈ ps, x.op ≠ 0

theorem nohalt_snoc {ps : List B.Ins} {x : B.Ins} (h : NoHalt ps) (hx : x.op ≠ 0) : NoHalt (ps ++ [x]) := by
  intro y hy
  rcases List.mem_append.1 hy with h' | h'
  · exact h y h'
  · simp at h'; subst h'; exact hx

theorem same_fail {r rc : B.Out} {k : Int} (h : r.failed = some k) (h' : rc.failed = some k) : Same r rc := by
  refine ⟨?_, ?_, ?_, ?_, ?_⟩
  · unfold fl; rw [h, h']
  · unfold slotOf; rw [h, h']
  · unfold payL; rw [h, h']; rfl
  · unfold outL; rw [h, h']; rfl
  · unfold hasL; rw [h, h']; rfl
theorem exec_ok {x : B.Ins} {inp : List Nat} {st s' : B.St} {size slots d : Nat} {left : Int} (hr : x.right = true) (ht : x.touch size slots left = 0) (hi : B.Words inp) (h : B.StOk size slots st) (he : x.exec inp st = .go d s') : B.StOk size slots s' := by
  have hb := B.right_bounds hr
  unfold B.Ins.exec at he
  split at he
  · cases he; exact h.set _ _ (B.val_lt hr h hi)
  split at he
  · rename_i hl
    have ho : 9 ≤ x.op ∧ x.op ≤ 13 := by unfold B.Ins.lays at hl; simp at hl; omega
    have hbn : x.b.toNat + x.n.toNat ≤ size := by
      unfold B.Ins.touch at ht
      rw [if_pos ho] at ht
      split at ht
      · omega
      · omega
    have h2 := B.lay_ok h hbn
    cases he
    exact h.lay _ h2.1 h2.2
  split at he
  · cases he
  split at he
  · cases he; exact h.hand _ _ (h.reg _)
  split at he
  · split at he
    · cases he; exact h
    · cases he
  split at he
  · cases he; exact h
  split at he
  · cases he; exact h
  · cases he; exact h

theorem run_ok {p : List B.Ins} {size slots : Nat} (hp : B.MayRun p size slots) {inp : List Nat} (hi : B.Words inp) : ∀ pc, ∀ st, B.StOk size slots st → B.StOk size slots (B.run p inp pc st).st := by
  refine B.pc_ind (p := p) (P := fun pc => ∀ st, B.StOk size slots st → B.StOk size slots (B.run p inp pc st).st) ?_ ?_
  · intro pc h st hst
    rw [B.run_end h]
    exact hst
  · intro pc x hx ih st hst
    cases he : x.exec inp st with
    | halt => rw [B.run_halt hx he]; exact hst
    | fail k => rw [B.run_fail hx he]; exact hst
    | go d s' =>
      rw [B.run_go hx he]
      exact ih (pc + 1 + d) (by omega) s' (exec_ok (hp.ok.right pc x hx) (hp.ok.touch pc x hx) hi hst he)
theorem lists_of {r : B.Out} (h : fl r = false) : outL r = r.st.out ∧ hasL r = r.st.has := by
  unfold fl at h
  unfold outL hasL
  rw [h]
  exact ⟨rfl, rfl⟩

theorem get_some {α : Type} {l : List α} {t : Nat} {d : α} (h : t < l.length) : l[t]? = some (l.getD t d) := by
  rw [List.getD_eq_getElem?_getD, List.getElem?_eq_getElem h]; rfl
set_option maxRecDepth 100000 in
set_option maxHeartbeats 6400000 in
theorem law (a0 : Option Addr) (len0 cap0 : Nat) (ps0 : List B.Ins) (pa0 : Option Addr) (pn0 pc0 : Nat) (pay0 : List Nat) (ia0 : Option Addr) (im0 ic0 : Nat) (inp0 : List Nat) (a1 : Option Addr) (len1 cap1 : Nat) (ps1 : List B.Ins) (w : World) (hp0 : ProgAt w a0 len0 ps0) (hwf0 : ∀ y ∈ ps0, y.Wf) (hn0 : a0 = none → cap0 = 0) (hl0 : len0 ≤ 9223372036854775807) (hy0 : ListAt w pa0 pn0 (pay0.map u8V)) (hb0 : B.Bytes pay0) (hyl0 : pn0 ≤ 9223372036854775807) (hu0 : ListAt w ia0 im0 (inp0.map u64V)) (hw0 : B.Words inp0) (hul0 : im0 ≤ 9223372036854775807) (hp1 : ProgAt w a1 len1 ps1) (hwf1 : ∀ y ∈ ps1, y.Wf) (hl1 : len1 * 40 ≤ 140737488351232) (hn1 : a1 = none → cap1 = 0) (hR : Tabs w) :
    Calls Tryz.prog 3 #[.agg #[.slice a0 len0 cap0, .slice pa0 pn0 pc0, .slice ia0 im0 ic0], .slice a1 len1 cap1] w (BoolOut true w) := by
  have _U0 := Lib.hid hn0
  have _U1 := Lib.hid hn1
  have _U2 := Lib.hid hyl0
  have _U3 := Lib.hid hul0
  have HP := Lib.hid hp0
  have HWF := Lib.hid hwf0
  have HY := Lib.hid hy0
  have HBY := Lib.hid hb0
  have HU := Lib.hid hu0
  have HW := Lib.hid hw0
  have HP1 := Lib.hid hp1
  have HWF1 := Lib.hid hwf1
  have HR := Lib.hid hR
  have hlw1 : len1 ≤ 3518437208780 := by omega
  have HBX := Lib.hid ((Below.refl w.heap.size w).alloc (Nat.le_refl _) (.cells #[.slice a0 len0 cap0, .slice pa0 pn0 pc0, .slice ia0 im0 ic0] 26))
  clear hp0 hwf0 hn0 hy0 hb0 hyl0 hu0 hw0 hul0 hp1 hwf1 hl1 hn1 hR
  by_cases hm : B.MayRun ps0 pn0 im0
  · have HM := Lib.hid hm
    have hlen : len0 ≤ 16384 := by rw [HP.out.len]; exact hm.len
    clear hm
    obtain ⟨r, hq⟩ : ∃ r, B.run ps0 inp0 0 (B.start pay0 im0) = r := ⟨_, rfl⟩
    have HQ := Lib.hid hq
    clear hq
    go_enter Tryz.func3, Tryz.ntmps3
    go_wp2_with fail
    refine (run_same (r := r) (Same.refl r) rfl a0 pa0 ia0 len0 cap0 pn0 pc0 im0 ic0 ps0 pay0 inp0 _ (HP.out.below HBX.out (Nat.le_refl _)) HWF.out (HR.out.below HBX.out (Nat.le_refl _)) hl0 HM.out (HY.out.below HBX.out (Nat.le_refl _)) (HU.out.below HBX.out (Nat.le_refl _)) HBY.out HW.out HQ.out).mono ?_
    rintro e w2 ⟨xa, xc, ya, yc, za, zc, rfl, o1, o2, o3, ⟨s1, s2, s3⟩, hb2⟩
    have HB2 := Lib.hid (HBX.out.trans (hb2.mono (by simp)))
    have hs2 := HB2.out.size
    have O1 := Lib.hid o1
    have O2 := Lib.hid o2
    have O3 := Lib.hid o3
    clear o1 o2 o3 hb2
    go_wp2_with fail
    have hb3 := (Below.refl w2.heap.size w2).alloc (Nat.le_refl _) (.cells #[.bool (fl r), .int .i64 (slotOf r), .slice xa (payL r).length xc, .slice ya (outL r).length yc, .slice za (hasL r).length zc, .int .i64 (r.steps : Int)] 29)
    refine (works14_any _ ((HR.out.below HB2.out (Nat.le_refl _)).below hb3 (Nat.le_refl _))).mono ?_
    rintro e w4 ⟨rfl, hb4⟩
    have HA4 := Lib.hid ((hb4.block w2.heap.size (by simp)).trans (heap_alloc_new w2 _))
    have HB24 := Lib.hid (hb3.trans (hb4.mono (by simp)))
    have HB4 := Lib.hid (HB2.out.trans (HB24.out.mono hs2))
    have hs4 := HB4.out.size
    have hs24 : w2.heap.size + 1 ≤ w4.heap.size := by have := hb4.size; simpa using this
    clear hb3 hb4
    by_cases hsum : len0 + len1 ≤ 16384
    · by_cases hm : B.MayRun ps1 pn0 im0
      · have HM1 := Lib.hid hm
        clear hm
        go_wp2_with fail
        refine (program_yes a1 len1 cap1 ps1 pn0 im0 _ (HP1.out.below HB4.out (Nat.le_refl _)) HWF1.out (HR.out.below HB4.out (Nat.le_refl _)) (by omega) HM1.out).mono ?_
        rintro e w5 ⟨rfl, hb5⟩
        have HA5 := Lib.hid ((hb5.block w2.heap.size (by omega)).trans HA4.out)
        have HB5 := Lib.hid (HB4.out.trans (hb5.mono hs4))
        have HB25 := Lib.hid (HB24.out.trans (hb5.mono (by omega)))
        have hs5 := HB5.out.size
        have hs25 : w2.heap.size + 1 ≤ w5.heap.size := by have := hb5.size; omega
        clear hb5
        go_wp2_with fail
        go_loopw [10, 11] (fun v i wr => ∃ (k : Nat) (ao : Option Addr) (cp : Nat), k ≤ len0 ∧ i = .int .i64 k ∧ v = .slice ao k cp ∧ OwnP wr w5.heap.size ao k cp (ps0.take k) ∧ Below w5.heap.size w5 wr ∧ NoHalt (ps0.take k))
          (fun _ i _ => len0 - (intOf i).toNat)
        case atStart => exact ⟨0, none, 0, Nat.zero_le _, rfl, rfl, OwnP.nil _ _, Below.refl _ _, fun x hx => by simp at hx⟩
        case round =>
          obtain ⟨k, ao, cp, hk, rfl, rfl, hown, hb, hnh⟩ := hrel
          have HO := Lib.hid hown
          have HBr := Lib.hid hb
          have HNH := Lib.hid hnh
          have hsz := hb.size
          clear hown hb hnh
          by_cases hlt : k < len0
          · have hx : ps0[k]? = some (ps0[k]'(by have := HP.out.len; omega)) := List.getElem?_eq_getElem _
            generalize ps0[k]'(by have := HP.out.len; omega) = x at hx
            obtain ⟨b, off, rfl, hbl, hat⟩ := HP.out.at_ k x hx
            obtain ⟨h0, h1, h2, h3, h4⟩ := hat.below (HB5.out.trans (HBr.out.mono hs5)) hbl
            have HX := Lib.hid hx
            clear hx hat hbl
            by_cases hop : x.op = 0
            · have q1 : (x.op == 0) = true := by simp; exact hop
              clear hop
              go_wp2_with fail
              go_ret
              exact ⟨rfl, HB5.out.trans (HBr.out.mono hs5)⟩
            · have q1 : (x.op == 0) = false := by simp; exact hop
              have HOP := Lib.hid hop
              clear hop
              go_wp2_with (at_builtin; refine app_ins rfl _ _ rfl w5.heap.size rfl HO.out rfl (by omega) (by omega) ?_; intro ao' cp' w6 hown6 hb6 hs6)
              go_roundw
              case rel => exact ⟨k + 1, ao', cp', by omega, by go_num, rfl, by rw [take_snoc' _ _ _ HX.out]; exact hown6, HBr.out.trans hb6, by rw [take_snoc' _ _ _ HX.out]; exact nohalt_snoc HNH.out HOP.out⟩
              case measure => simp [intOf]; omega
          · obtain rfl : k = len0 := by omega
            have htk : ps0.take k = ps0 := List.take_of_length_le (by have := HP.out.len; omega)
            have HO1 : Hid (OwnP wr w5.heap.size ao k cp ps0) := by
              have := HO.out
              rw [htk] at this
              exact this
            have HNH1 : Hid (NoHalt ps0) := by
              have := HNH.out
              rw [htk] at this
              exact this
            obtain ⟨wo, hwo⟩ : ∃ wo : World, wo = wr := ⟨_, rfl⟩
            subst hwo
            clear HO HNH htk
            go_wp2_with fail
            go_loopw [10, 12] (fun v i wr => ∃ (j : Nat) (ao : Option Addr) (cp : Nat), j ≤ len1 ∧ i = .int .i64 j ∧ v = .slice ao (k + j) cp ∧ OwnP wr w5.heap.size ao (k + j) cp (ps0 ++ ps1.take j) ∧ Below w5.heap.size w5 wr)
              (fun _ i _ => len1 - (intOf i).toNat)
            case atStart => exact ⟨0, ao, cp, Nat.zero_le _, rfl, rfl, by rw [List.take_zero, List.append_nil]; exact HO1.out, HBr.out⟩
            case round =>
              obtain ⟨j, ao2, cp2, hj, rfl, rfl, hown, hb⟩ := hrel
              have HO := Lib.hid hown
              have HBq := Lib.hid hb
              have hszq := hb.size
              clear hown hb
              by_cases hltj : j < len1
              · have hx : ps1[j]? = some (ps1[j]'(by have := HP1.out.len; omega)) := List.getElem?_eq_getElem _
                generalize ps1[j]'(by have := HP1.out.len; omega) = x at hx
                obtain ⟨b, off, rfl, hbl, hat⟩ := HP1.out.at_ j x hx
                obtain ⟨h0, h1, h2, h3, h4⟩ := hat.below (HB5.out.trans (HBq.out.mono hs5)) hbl
                have HX := Lib.hid hx
                clear hx hat hbl
                go_wp2_with (at_builtin; refine app_ins rfl _ _ rfl w5.heap.size rfl HO.out rfl (by omega) (by omega) ?_; intro ao' cp' w6 hown6 hb6 hs6)
                go_roundw
                case rel => exact ⟨j + 1, ao', cp', by omega, by go_num, rfl, by rw [take_snoc' _ _ _ HX.out, ← List.append_assoc]; exact hown6, HBq.out.trans hb6⟩
                case measure => simp [intOf]; omega
              · obtain rfl : j = len1 := by omega
                have HO2 : Hid (OwnP wr w5.heap.size ao2 (k + j) cp2 (ps0 ++ ps1)) := by
                  have := HO.out
                  rw [List.take_of_length_le (by have := HP1.out.len; omega)] at this
                  exact this
                have HBw := Lib.hid (HB5.out.trans (HBq.out.mono hs5))
                have HA6 := Lib.hid ((HBq.out.block w2.heap.size (by omega)).trans HA5.out)
                have HB26 := Lib.hid (HB25.out.trans (HBq.out.mono (by omega)))
                have hs6 : w5.heap.size ≤ wr.heap.size := hszq
                have HMQ : Hid (B.MayRun (ps0 ++ ps1) pn0 im0) := HM.out.append HM1.out (by rw [List.length_append, ← HP.out.len, ← HP1.out.len]; exact hsum)
                have HWFQ : Hid (∀ y ∈ ps0 ++ ps1, y.Wf) := by
                  show ∀ y ∈ ps0 ++ ps1, y.Wf
                  intro y hy
                  rcases List.mem_append.1 hy with h | h
                  · exact HWF.out y h
                  · exact HWF1.out y h
                have hrs : r.steps ≤ 16384 := by have := B.steps_le ps0 inp0 0 (B.start pay0 im0); rw [HQ.out] at this; have := HP.out.len; omega
                clear HO hszq
                go_wp2_with fail
                cases hfl : r.failed with
                | some kk =>
                  have hbf := B.behind_fail (q := ps1) HM.out HNH1.out (inp := inp0) (s := B.start pay0 im0) (k := kk) (by rw [HQ.out]; exact hfl)
                  obtain ⟨rc, hrc⟩ : ∃ rc, B.run (ps0 ++ ps1) inp0 0 (B.start pay0 im0) = rc := ⟨_, rfl⟩
                  rw [hrc, HQ.out] at hbf
                  have HSM : Hid (Same r rc) := same_fail hfl hbf.1
                  have HST := Lib.hid hbf.2
                  have HRC := Lib.hid hrc
                  have HF : Hid (fl r = true) := by show fl r = true; unfold fl; rw [hfl]; rfl
                  clear hbf hrc hfl
                  refine (run_same HSM.out HST.out ao2 pa0 ia0 (k + j) cp2 pn0 pc0 im0 ic0 _ pay0 inp0 _ HO2.out.progAt HWFQ.out (HR.out.below HBw.out (Nat.le_refl _)) (by omega) HMQ.out (HY.out.below HBw.out (Nat.le_refl _)) (HU.out.below HBw.out (Nat.le_refl _)) HBY.out HW.out HRC.out).mono ?_
                  rintro e w7 ⟨xa', xc', ya', yc', za', zc', rfl, o1, o2, o3, _, hb7⟩
                  have hG : w7.heap[w2.heap.size]? = _ := (hb7.block w2.heap.size (by omega)).trans HA6.out
                  have hX7 : w2.heap.size < w7.heap.size := lt_of_block hG
                  have HB7 := Lib.hid (HBw.out.trans (hb7.mono (by omega)))
                  rw [HF.out] at hG
                  rw [HF.out]
                  have q0 : w7.cell? ⟨w2.heap.size, 0, none⟩ = some (.bool true) := by rw [cell_of_row _ _ _ _ _ _ hG]; rfl
                  have q1 : w7.cell? ⟨w2.heap.size, 1, none⟩ = some (.int .i64 (slotOf r)) := by rw [cell_of_row _ _ _ _ _ _ hG]; rfl
                  have q5 : w7.cell? ⟨w2.heap.size, 5, none⟩ = some (.int .i64 (r.steps : Int)) := by rw [cell_of_row _ _ _ _ _ _ hG]; rfl
                  clear hG o1 o2 o3 hb7
                  go_wp2_with fail
                  go_ret
                  exact ⟨rfl, HB7.out.alloc (by omega) _⟩
                | none =>
                  have hep : payL r = r.st.pay := by unfold payL; rw [hfl]; rfl
                  have heo : outL r = r.st.out := by unfold outL; rw [hfl]; rfl
                  have heh : hasL r = r.st.has := by unfold hasL; rw [hfl]; rfl
                  have hrok : B.StOk pn0 im0 r.st := by
                    have h := run_ok HM.out HW.out 0 (B.start pay0 im0) (by have := HY.out.len; rw [List.length_map] at this; rw [this]; exact B.start_ok im0 HBY.out)
                    rw [HQ.out] at h
                    exact h
                  have hpl : (payL r).length = pn0 := by rw [hep]; exact hrok.payl
                  have hpb : B.Bytes (payL r) := by rw [hep]; exact hrok.pay
                  obtain ⟨rb, hrb⟩ : ∃ rb, B.run ps1 inp0 0 (B.start (payL r) im0) = rb := ⟨_, rfl⟩
                  obtain ⟨rc, hrc⟩ : ∃ rc, B.run (ps0 ++ ps1) inp0 0 (B.start pay0 im0) = rc := ⟨_, rfl⟩
                  obtain ⟨ef, est, ep, eo⟩ := B.behind_go (b := rb) (c := rc) HM.out HM1.out HNH1.out HQ.out (by rw [← hep]; exact hrb) hrc hfl
                  have efl : fl rc = fl rb := by unfold fl; rw [ef]
                  have esl : slotOf rc = slotOf rb := by unfold slotOf; rw [ef]
                  have epl : payL rc = payL rb := by unfold payL; rw [ef, ep]
                  have hbst : rb.steps ≤ 16384 := by have := B.steps_le ps1 inp0 0 (B.start (payL r) im0); rw [hrb] at this; have := HP1.out.len; omega
                  have lb := B.run_lens ps1 inp0 (payL r) im0
                  have lc := B.run_lens (ps0 ++ ps1) inp0 pay0 im0
                  rw [hrb] at lb
                  rw [hrc] at lc
                  have HLB := Lib.hid lb
                  have HLC := Lib.hid lc
                  have HRK := Lib.hid hrok
                  have HEO := Lib.hid heo
                  have HEH := Lib.hid heh
                  have HPL := Lib.hid hpl
                  have HPB := Lib.hid hpb
                  have HRB := Lib.hid hrb
                  have HRC := Lib.hid hrc
                  have HEF := Lib.hid ef
                  have HST := Lib.hid est
                  have HEO2 := Lib.hid eo
                  have HFL := Lib.hid efl
                  have HSL := Lib.hid esl
                  have HPLc := Lib.hid epl
                  have HF : Hid (fl r = false) := by show fl r = false; unfold fl; rw [hfl]; rfl
                  clear hep heo heh hrok hpl hpb hrb hrc ef est ep eo efl esl epl lb lc hfl
                  refine (run_same (Same.refl rc) HST.out ao2 pa0 ia0 (k + j) cp2 pn0 pc0 im0 ic0 _ pay0 inp0 _ HO2.out.progAt HWFQ.out (HR.out.below HBw.out (Nat.le_refl _)) (by omega) HMQ.out (HY.out.below HBw.out (Nat.le_refl _)) (HU.out.below HBw.out (Nat.le_refl _)) HBY.out HW.out HRC.out).mono ?_
                  rintro e w7 ⟨xa', xc', ya', yc', za', zc', rfl, o1, o2, o3, ⟨t1, t2, t3⟩, hb7⟩
                  rw [HFL.out, HSL.out]
                  have hG : w7.heap[w2.heap.size]? = _ := (hb7.block w2.heap.size (by omega)).trans HA6.out
                  rw [HF.out] at hG
                  have hX7 : w2.heap.size < w7.heap.size := lt_of_block hG
                  have HB7 := Lib.hid (HBw.out.trans (hb7.mono (by omega)))
                  have HB27 := Lib.hid (HB26.out.trans (hb7.mono (by omega)))
                  have q0 : w7.cell? ⟨w2.heap.size, 0, none⟩ = some (.bool false) := by rw [cell_of_row _ _ _ _ _ _ hG]; rfl
                  have q2 : w7.cell? ⟨w2.heap.size, 2, none⟩ = some (.slice xa (payL r).length xc) := by rw [cell_of_row _ _ _ _ _ _ hG]; rfl
                  have P1 := Lib.hid o1
                  have P2 := Lib.hid o2
                  have P3 := Lib.hid o3
                  have HG7 := Lib.hid hG
                  clear hG o1 o2 o3 hb7
                  go_wp2_with fail
                  obtain ⟨w8, hw8⟩ : ∃ w8, w7.alloc (.cells #[.bool (fl rb), .int .i64 (slotOf rb), .slice xa' (payL rc).length xc', .slice ya' (outL rc).length yc', .slice za' (hasL rc).length zc', .int .i64 ((r.steps : Int) + (rb.steps : Int))] 29) = w8 := ⟨_, rfl⟩
                  rw [hw8]
                  have HN8 : Hid (w8.heap[w7.heap.size]? = some (.cells #[.bool (fl rb), .int .i64 (slotOf rb), .slice xa' (payL rc).length xc', .slice ya' (outL rc).length yc', .slice za' (hasL rc).length zc', .int .i64 ((r.steps : Int) + (rb.steps : Int))] 29 (0, 0))) := by rw [← hw8]; exact heap_alloc_new w7 _
                  have HB78 : Hid (Below w7.heap.size w7 w8) := by rw [← hw8]; exact (Below.refl _ _).alloc (Nat.le_refl _) _
                  have HB8 := Lib.hid (HB7.out.trans (HB78.out.mono HB7.out.size))
                  have HB28 := Lib.hid (HB27.out.trans (HB78.out.mono HB27.out.size))
                  have HG8 := Lib.hid ((HB78.out.block w2.heap.size hX7).trans HG7.out)
                  have hs8 := HB8.out.size
                  have hX8 : w7.heap.size < w8.heap.size := lt_of_block HN8.out
                  clear hw8 q0 q2
                  refine (run_same (Same.refl rb) rfl a1 xa ia0 j cap1 (payL r).length xc im0 ic0 ps1 (payL r) inp0 _ (HP1.out.below HB8.out (Nat.le_refl _)) HWF1.out (HR.out.below HB8.out (Nat.le_refl _)) (by omega) (by rw [HPL.out]; exact HM1.out) ((ListAt.ofOwn O1.out).below HB28.out (Nat.le_refl _)) (HU.out.below HB8.out (Nat.le_refl _)) HPB.out HW.out HRB.out).mono ?_
                  rintro e w9 ⟨xb, xbc, yb, ybc, zb, zbc, rfl, b1, b2, b3, ⟨v1, v2, v3⟩, hb9⟩
                  have hA9 := (hb9.block w2.heap.size (by omega)).trans HG8.out
                  have hC9 := (hb9.block w7.heap.size hX8).trans HN8.out
                  have HB9 := Lib.hid (HB8.out.trans (hb9.mono hs8))
                  have HB29 := Lib.hid (HB28.out.trans (hb9.mono (by omega)))
                  have HB79 := Lib.hid (HB78.out.trans (hb9.mono (by omega)))
                  have Q1 := Lib.hid b1
                  have Q2 := Lib.hid b2
                  have Q3 := Lib.hid b3
                  have hs9 := hb9.size
                  obtain ⟨w10, hw10⟩ : ∃ w10, w9.alloc (.cells #[.bool (fl rb), .int .i64 (slotOf rb), .slice xb (payL rb).length xbc, .slice yb (outL rb).length ybc, .slice zb (hasL rb).length zbc, .int .i64 (rb.steps : Int)] 29) = w10 := ⟨_, rfl⟩
                  have HN10 : Hid (w10.heap[w9.heap.size]? = some (.cells #[.bool (fl rb), .int .i64 (slotOf rb), .slice xb (payL rb).length xbc, .slice yb (outL rb).length ybc, .slice zb (hasL rb).length zbc, .int .i64 (rb.steps : Int)] 29 (0, 0))) := by rw [← hw10]; exact heap_alloc_new w9 _
                  have HB910 : Hid (Below w9.heap.size w9 w10) := by rw [← hw10]; exact (Below.refl _ _).alloc (Nat.le_refl _) _
                  have HA10 := Lib.hid ((HB910.out.block w2.heap.size (by omega)).trans hA9)
                  have HC10 := Lib.hid ((HB910.out.block w7.heap.size (by omega)).trans hC9)
                  have HB10 := Lib.hid (HB9.out.trans (HB910.out.mono HB9.out.size))
                  have HB210 := Lib.hid (HB29.out.trans (HB910.out.mono HB29.out.size))
                  have HB710 := Lib.hid (HB79.out.trans (HB910.out.mono HB79.out.size))
                  have qa0 : w10.cell? ⟨w2.heap.size, 0, none⟩ = some (.bool false) := by rw [cell_of_row _ _ _ _ _ _ HA10.out]; rfl
                  have qa5 : w10.cell? ⟨w2.heap.size, 5, none⟩ = some (.int .i64 (r.steps : Int)) := by rw [cell_of_row _ _ _ _ _ _ HA10.out]; rfl
                  have qc0 : w10.cell? ⟨w7.heap.size, 0, none⟩ = some (.bool (fl rb)) := by rw [cell_of_row _ _ _ _ _ _ HC10.out]; rfl
                  have qc1 : w10.cell? ⟨w7.heap.size, 1, none⟩ = some (.int .i64 (slotOf rb)) := by rw [cell_of_row _ _ _ _ _ _ HC10.out]; rfl
                  have qc2 : w10.cell? ⟨w7.heap.size, 2, none⟩ = some (.slice xa' (payL rc).length xc') := by rw [cell_of_row _ _ _ _ _ _ HC10.out]; rfl
                  have qc5 : w10.cell? ⟨w7.heap.size, 5, none⟩ = some (.int .i64 ((r.steps : Int) + (rb.steps : Int))) := by rw [cell_of_row _ _ _ _ _ _ HC10.out]; rfl
                  have qb0 : w10.cell? ⟨w9.heap.size, 0, none⟩ = some (.bool (fl rb)) := by rw [cell_of_row _ _ _ _ _ _ HN10.out]; rfl
                  have qb1 : w10.cell? ⟨w9.heap.size, 1, none⟩ = some (.int .i64 (slotOf rb)) := by rw [cell_of_row _ _ _ _ _ _ HN10.out]; rfl
                  have qb2 : w10.cell? ⟨w9.heap.size, 2, none⟩ = some (.slice xb (payL rb).length xbc) := by rw [cell_of_row _ _ _ _ _ _ HN10.out]; rfl
                  have qb5 : w10.cell? ⟨w9.heap.size, 5, none⟩ = some (.int .i64 (rb.steps : Int)) := by rw [cell_of_row _ _ _ _ _ _ HN10.out]; rfl
                  have hx29 : w2.heap.size < w9.heap.size := by omega
                  have hx79 : w7.heap.size < w9.heap.size := by omega
                  clear hb9 b1 b2 b3 hA9 hC9
                  go_wp2_with fail
                  clear hw10
                  have hB1 := ListAt.ofOwn (P1.out)
                  have hB2 := ListAt.ofOwn (Q1.out)
                  refine (sameBytes_any xa' xb _ xc' _ xbc (payL rc) (payL rb) _ (hB1.below HB710.out (Nat.le_refl _)) (hB2.below HB910.out (Nat.le_refl _)) (by omega)).mono ?_
                  rintro e w11 ⟨rfl, hb11⟩
                  have e1 : decide (payL rc = payL rb) = true := by rw [HPLc.out]; simp
                  rw [e1]
                  have HA11 := Lib.hid ((hb11.block w2.heap.size (lt_of_block HA10.out)).trans HA10.out)
                  have HC11 := Lib.hid ((hb11.block w7.heap.size (lt_of_block HC10.out)).trans HC10.out)
                  have HN11 := Lib.hid ((hb11.block w9.heap.size (lt_of_block HN10.out)).trans HN10.out)
                  have HB11 := Lib.hid (HB10.out.trans (hb11.mono HB10.out.size))
                  have HB211 := Lib.hid (HB210.out.trans (hb11.mono HB210.out.size))
                  have HB711 := Lib.hid (HB710.out.trans (hb11.mono HB710.out.size))
                  have HB911 := Lib.hid (HB910.out.trans (hb11.mono HB910.out.size))
                  have L1 := Lib.hid (ListAt.ofOwn O2.out)
                  have L2 := Lib.hid (ListAt.ofOwn O3.out)
                  have L3 := Lib.hid (ListAt.ofOwn P2.out)
                  have L4 := Lib.hid (ListAt.ofOwn P3.out)
                  have L5 := Lib.hid (ListAt.ofOwn Q2.out)
                  have L6 := Lib.hid (ListAt.ofOwn Q3.out)
                  clear hb11 hB1 hB2 e1 qa0 qa5 qc0 qc1 qc2 qc5 qb0 qb1 qb2 qb5
                  have hX1 : w2.heap.size < w11.heap.size := lt_of_block HA11.out
                  have hX2 : w7.heap.size < w11.heap.size := lt_of_block HC11.out
                  have hX3 : w9.heap.size < w11.heap.size := lt_of_block HN11.out
                  cases hflb : fl rb with
                  | true =>
                    rw [hflb] at HN11
                    have HFB := Lib.hid hflb
                    clear hflb
                    go_wp2_with fail
                    go_loopw [17] (fun i wr => ∃ t : Nat, t ≤ im0 ∧ i = .int .i64 t ∧ Below w11.heap.size w11 wr) (fun i _ => im0 - (intOf i).toNat)
                    case atStart => exact ⟨0, Nat.zero_le _, rfl, Below.refl _ _⟩
                    case round =>
                      obtain ⟨t, ht, rfl, hbr⟩ := hrel
                      have HBr := Lib.hid hbr
                      clear hbr
                      have qb0 : wr.cell? ⟨w9.heap.size, 0, none⟩ = some (.bool true) := (HBr.out.cell (p := ⟨w9.heap.size, 0, none⟩) hX3).trans ((cell_of_row _ _ _ _ _ _ HN11.out).trans rfl)
                      by_cases hlt : t < im0
                      · go_wp2_with fail
                        go_ret
                        exact ⟨rfl, HB11.out.trans (HBr.out.mono HB11.out.size)⟩
                      · go_wp2_with fail
                        go_ret
                        exact ⟨rfl, HB11.out.trans (HBr.out.mono HB11.out.size)⟩
                  | false =>
                    rw [hflb] at HN11
                    have hflc : fl rc = false := by rw [HFL.out]; exact hflb
                    have EB := Lib.hid (lists_of hflb)
                    have EC := Lib.hid (lists_of hflc)
                    have EA := Lib.hid (lists_of HF.out)
                    clear hflb hflc
                    go_wp2_with fail
                    go_loopw [17] (fun i wr => ∃ t : Nat, t ≤ im0 ∧ i = .int .i64 t ∧ Below w11.heap.size w11 wr) (fun i _ => im0 - (intOf i).toNat)
                    case atStart => exact ⟨0, Nat.zero_le _, rfl, Below.refl _ _⟩
                    case round =>
                      obtain ⟨t, ht, rfl, hbr⟩ := hrel
                      have HBr := Lib.hid hbr
                      clear hbr
                      by_cases hlt : t < im0
                      · have n1 : t < (outL r).length := by rw [EA.out.1, HRK.out.outl]; exact hlt
                        have n2 : t < (hasL r).length := by rw [EA.out.2, HRK.out.hasl]; exact hlt
                        have n3 : t < (outL rc).length := by rw [EC.out.1, HLC.out.1]; exact hlt
                        have n4 : t < (hasL rc).length := by rw [EC.out.2, HLC.out.2.1]; exact hlt
                        have n5 : t < (outL rb).length := by rw [EB.out.1, HLB.out.1]; exact hlt
                        have n6 : t < (hasL rb).length := by rw [EB.out.2, HLB.out.2.1]; exact hlt
                        have hE := HEO2.out t hlt
                        rw [← EA.out.1, ← EA.out.2, ← EB.out.1, ← EB.out.2, ← EC.out.1, ← EC.out.2] at hE
                        obtain ⟨b1, o1, rfl, hl1, hc1⟩ := L1.out.at_ t (u64V ((outL r).getD t 0)) (by rw [List.getElem?_map, get_some n1]; rfl)
                        obtain ⟨b2, o2, rfl, hl2, hc2⟩ := L2.out.at_ t (.bool ((hasL r).getD t false)) (by rw [List.getElem?_map, get_some n2]; rfl)
                        obtain ⟨b3, o3, rfl, hl3, hc3⟩ := L3.out.at_ t (u64V ((outL rc).getD t 0)) (by rw [List.getElem?_map, get_some n3]; rfl)
                        obtain ⟨b4, o4, rfl, hl4, hc4⟩ := L4.out.at_ t (.bool ((hasL rc).getD t false)) (by rw [List.getElem?_map, get_some n4]; rfl)
                        obtain ⟨b5, o5, rfl, hl5, hc5⟩ := L5.out.at_ t (u64V ((outL rb).getD t 0)) (by rw [List.getElem?_map, get_some n5]; rfl)
                        obtain ⟨b6, o6, rfl, hl6, hc6⟩ := L6.out.at_ t (.bool ((hasL rb).getD t false)) (by rw [List.getElem?_map, get_some n6]; rfl)
                        have s2 := HB211.out.size
                        have s7 := HB711.out.size
                        have s9 := HB911.out.size
                        replace hc1 := (HBr.out.cell (p := ⟨b1, o1 + t, none⟩) (Nat.lt_of_lt_of_le hl1 s2)).trans ((HB211.out.cell (p := ⟨b1, o1 + t, none⟩) hl1).trans hc1)
                        replace hc2 := (HBr.out.cell (p := ⟨b2, o2 + t, none⟩) (Nat.lt_of_lt_of_le hl2 s2)).trans ((HB211.out.cell (p := ⟨b2, o2 + t, none⟩) hl2).trans hc2)
                        replace hc3 := (HBr.out.cell (p := ⟨b3, o3 + t, none⟩) (Nat.lt_of_lt_of_le hl3 s7)).trans ((HB711.out.cell (p := ⟨b3, o3 + t, none⟩) hl3).trans hc3)
                        replace hc4 := (HBr.out.cell (p := ⟨b4, o4 + t, none⟩) (Nat.lt_of_lt_of_le hl4 s7)).trans ((HB711.out.cell (p := ⟨b4, o4 + t, none⟩) hl4).trans hc4)
                        replace hc5 := (HBr.out.cell (p := ⟨b5, o5 + t, none⟩) (Nat.lt_of_lt_of_le hl5 s9)).trans ((HB911.out.cell (p := ⟨b5, o5 + t, none⟩) hl5).trans hc5)
                        replace hc6 := (HBr.out.cell (p := ⟨b6, o6 + t, none⟩) (Nat.lt_of_lt_of_le hl6 s9)).trans ((HB911.out.cell (p := ⟨b6, o6 + t, none⟩) hl6).trans hc6)
                        have qa3 : wr.cell? ⟨w2.heap.size, 3, none⟩ = some (.slice (some ⟨b1, o1, none⟩) (outL r).length yc) := (HBr.out.cell (p := ⟨w2.heap.size, 3, none⟩) hX1).trans ((cell_of_row _ _ _ _ _ _ HA11.out).trans rfl)
                        have qa4 : wr.cell? ⟨w2.heap.size, 4, none⟩ = some (.slice (some ⟨b2, o2, none⟩) (hasL r).length zc) := (HBr.out.cell (p := ⟨w2.heap.size, 4, none⟩) hX1).trans ((cell_of_row _ _ _ _ _ _ HA11.out).trans rfl)
                        have qc3 : wr.cell? ⟨w7.heap.size, 3, none⟩ = some (.slice (some ⟨b3, o3, none⟩) (outL rc).length yc') := (HBr.out.cell (p := ⟨w7.heap.size, 3, none⟩) hX2).trans ((cell_of_row _ _ _ _ _ _ HC11.out).trans rfl)
                        have qc4 : wr.cell? ⟨w7.heap.size, 4, none⟩ = some (.slice (some ⟨b4, o4, none⟩) (hasL rc).length zc') := (HBr.out.cell (p := ⟨w7.heap.size, 4, none⟩) hX2).trans ((cell_of_row _ _ _ _ _ _ HC11.out).trans rfl)
                        have qb0 : wr.cell? ⟨w9.heap.size, 0, none⟩ = some (.bool false) := (HBr.out.cell (p := ⟨w9.heap.size, 0, none⟩) hX3).trans ((cell_of_row _ _ _ _ _ _ HN11.out).trans rfl)
                        have qb3 : wr.cell? ⟨w9.heap.size, 3, none⟩ = some (.slice (some ⟨b5, o5, none⟩) (outL rb).length ybc) := (HBr.out.cell (p := ⟨w9.heap.size, 3, none⟩) hX3).trans ((cell_of_row _ _ _ _ _ _ HN11.out).trans rfl)
                        have qb4 : wr.cell? ⟨w9.heap.size, 4, none⟩ = some (.slice (some ⟨b6, o6, none⟩) (hasL rb).length zbc) := (HBr.out.cell (p := ⟨w9.heap.size, 4, none⟩) hX3).trans ((cell_of_row _ _ _ _ _ _ HN11.out).trans rfl)
                        unfold u64V at hc1 hc3 hc5
                        clear hl1 hl2 hl3 hl4 hl5 hl6 s2 s7 s9
                        generalize (outL r).getD t 0 = va at *
                        generalize (hasL r).getD t false = ha at *
                        generalize (outL rc).getD t 0 = vc at *
                        generalize (hasL rc).getD t false = hc at *
                        generalize (outL rb).getD t 0 = vb at *
                        generalize (hasL rb).getD t false = hb at *
                        have m0 : (0 : Int) ≤ (t : Int) := by omega
                        have m1 : (t : Int) < ((outL r).length : Int) := by omega
                        have m2 : (t : Int) < ((hasL r).length : Int) := by omega
                        have m3 : (t : Int) < ((outL rc).length : Int) := by omega
                        have m4 : (t : Int) < ((hasL rc).length : Int) := by omega
                        have m5 : (t : Int) < ((outL rb).length : Int) := by omega
                        have m6 : (t : Int) < ((hasL rb).length : Int) := by omega
                        obtain ⟨e1, e2⟩ := hE
                        cases hb <;> cases ha
                        all_goals
                          simp at e1 e2
                          subst e1 e2
                          go_wp2_with fail
                          go_quiet (fail)
                          go_wp2_with fail
                          go_roundw
                          case rel => exact ⟨t + 1, by omega, by go_num, belowN HBr.out _⟩
                          case measure => simp [intOf]; omega
                      · obtain rfl : t = im0 := by omega
                        have qb0 : wr.cell? ⟨w9.heap.size, 0, none⟩ = some (.bool false) := (HBr.out.cell (p := ⟨w9.heap.size, 0, none⟩) hX3).trans ((cell_of_row _ _ _ _ _ _ HN11.out).trans rfl)
                        go_wp2_with fail
                        go_ret
                        exact ⟨rfl, HB11.out.trans (HBr.out.mono HB11.out.size)⟩
      · have HM1 := Lib.hid hm
        clear hm
        go_wp2_with fail
        refine (program_no a1 len1 cap1 ps1 pn0 im0 _ (HP1.out.below HB4.out (Nat.le_refl _)) HWF1.out (HR.out.below HB4.out (Nat.le_refl _)) (by omega) HM1.out).mono ?_
        rintro e w5 ⟨⟨T, v, rfl⟩, hb5⟩
        have HB5 := Lib.hid (HB4.out.trans (hb5.mono hs4))
        clear hb5
        go_wp2_with fail
        refine (works14_any _ (HR.out.below HB5.out (Nat.le_refl _))).mono ?_
        rintro e w6 ⟨rfl, hb6⟩
        have HB6 := Lib.hid (HB5.out.trans (hb6.mono HB5.out.size))
        clear hb6
        go_wp2_with fail
        go_ret
        exact ⟨rfl, HB6.out⟩
    · go_wp2_with fail
      refine (works14_any _ (HR.out.below HB4.out (Nat.le_refl _))).mono ?_
      rintro e w6 ⟨rfl, hb6⟩
      have HB6 := Lib.hid (HB4.out.trans (hb6.mono hs4))
      clear hb6
      go_wp2_with fail
      go_ret
      exact ⟨rfl, HB6.out⟩
  · have HM := Lib.hid hm
    obtain ⟨T, v, he⟩ := Er.shape _ (progEr_no hm)
    have HE := Lib.hid he
    clear hm he
    go_enter Tryz.func3, Tryz.ntmps3
    go_wp2_with fail
    refine (run_no a0 pa0 ia0 len0 cap0 pn0 pc0 im0 ic0 ps0 _ (HP.out.below HBX.out (Nat.le_refl _)) HWF.out (HR.out.below HBX.out (Nat.le_refl _)) hl0 HM.out).mono ?_
    rintro e w2 ⟨rfl, hb2⟩
    rw [HE.out]
    have HB2 := Lib.hid (HBX.out.trans (hb2.mono (by simp)))
    have hs2 := HB2.out.size
    clear hb2
    go_wp2_with fail
    have hb3 := (Below.refl w2.heap.size w2).alloc (Nat.le_refl _) (.cells #[.bool false, .int .i64 0, .slice none 0 0, .slice none 0 0, .slice none 0 0, .int .i64 0] 29)
    refine (works14_any _ ((HR.out.below HB2.out (Nat.le_refl _)).below hb3 (Nat.le_refl _))).mono ?_
    rintro e w4 ⟨rfl, hb4⟩
    have HB4 := Lib.hid (HB2.out.trans ((hb3.trans (hb4.mono (by simp))).mono hs2))
    clear hb3 hb4
    go_wp2_with fail
    refine (works14_any _ (HR.out.below HB4.out (Nat.le_refl _))).mono ?_
    rintro e w6 ⟨rfl, hb6⟩
    have HB6 := Lib.hid (HB4.out.trans (hb6.mono HB4.out.size))
    clear hb6
    go_wp2_with fail
    go_ret
    exact ⟨rfl, HB6.out⟩

set_option maxRecDepth 100000 in
theorem lifted (os : Os) (started : os.Started) (H : Type) (enc : TypeId × Value → H) :
    ReturnsInHanded {} Tryz.checked os 3 .any (fun w args => (Rows.vmBehindSpec.pre enc Tryz.prog Tryz.f3 Rows.vmBehindRow.domain false w args ∧ laidMetH Tryz.prog laid1 w) ∧ sizedMet enc Tryz.prog Tryz.f3 (OpenSpec.ofChange Rows.vmBehindSpec) false w args)
      (Rows.vmBehindSpec.post enc Tryz.prog Tryz.f3 false true false false) := by
  refine returnsInHanded_of_change_and (C := Tryz.checked) (X := fun w _ => laidMetH Tryz.prog laid1 w) (fun _ _ _ hh h => h.of_heap hh) own started (by kernel_rfl) Tryz.func3
    (ChangeSpec.witness_shaped (enc := enc) (C := Tryz.checked) (os := os) (X := fun w _ => laidMetH Tryz.prog laid1 w) false (World.doorLaid Tryz.prog 93 os) #[.agg #[.slice none 0 0, .slice none 0 0, .slice none 0 0], .slice none 0 0] 8 rfl (World.shaped_of_RefB (by kernel_rfl) (by kernel_rfl)) (by kernel_rfl) (by kernel_rfl) (by kernel_rfl) (door_met1 os _)) ?_
  intro W base args ds gs before hval0 hW hcnd hsz0 hL _
  have hval : ∀ (j : Nat) t v, Tryz.f3.params[j]? = some t → args[j]? = some v → Value.okWide Tryz.prog W .any base t v := hval0
  have hsz : (DataW.weightsEach Tryz.prog (Tryz.f3.params.toList ++ Rows.vmBehindSpec.plain.varTypes Tryz.prog) (ds ++ gs)).all (· ≤ reachBytes) = true := hsz0
  have hW' := hW
  obtain ⟨p, q, hA0, hV, rfl, hfz, hnd⟩ := hW
  have hA : DataW.TrodAll enc Tryz.prog W 0 (fun _ => true) true Tryz.f3.params.toList args.toList ds p := hA0
  rw [Tryz.params3] at hA hval hsz
  have hA1 := hA
  obtain ⟨v0, vs0, d0, ds0, p0, q0, hargs, rfl, rfl, h0, r0⟩ := trodAll_cons hA
  obtain ⟨v1, vs1, d1, ds1, p1, q1, rfl, rfl, rfl, h1, r1⟩ := trodAll_cons r0
  obtain ⟨rfl, rfl, rfl⟩ := trodAll_nil r1
  obtain rfl : args = #[v0, v1] := by cases args; simp_all
  obtain ⟨rfl, rfl⟩ := trodVars_none hV
  obtain ⟨a0, len0, cap0, ps0, pa0, pn0, pc0, pay0, ia0, im0, ic0, inp0, rfl, ⟨hp0, hwf0, hn0, hl0⟩, ⟨hy0, hb0, hyn0, hyl0⟩, hu0, hw0, hun0, hul0⟩ := open_case (hval 0 26 v0 rfl rfl) h0
  obtain ⟨a1, len1, cap1, rfl⟩ := okWide_slice Tryz.underlying22 (hval 1 22 v1 rfl rfl)
  obtain ⟨fuel1, hf1⟩ := h1
  have hn1 := open_nil hf1
  obtain ⟨ps1, hp1, hwf1, hreach1⟩ := open_prog hf1
  have hr1 := hreach1 _ _ 1 hsz rfl rfl
  have lt0 := trodAll_lt _ _ _ _ hA1
  clear hA0 hval0 hsz0
  refine (law a0 len0 cap0 ps0 pa0 pn0 pc0 pay0 ia0 im0 ic0 inp0 a1 len1 cap1 ps1 W hp0 hwf0 hn0 hl0 hy0 hb0 hyl0 hu0 hw0 hul0 hp1 hwf1 hr1 hn1 (tabs_laid1 hL) ).mono fun e W' ⟨he, bel⟩ => ?_
  subst he
  exact ⟨_, rfl, _, _, _, [], _, [], hW', trodAll_mk1 (shut_bool Tryz.underlying4 _), below_trodAll laidOut bel _ _ _ _ (by kernel_rfl) hA1 lt0, rfl, bel.frame _, fun h => by cases h⟩

theorem said : Rows.VmBehindSaid :=
  OpenClaim.holds_of_wide 3 Tryz.f3 rfl rfl rfl rfl rfl rfl rfl ⟨rfl, rfl, rfl, rfl, rfl⟩ rfl rfl rfl rfl rfl found Tryz.func3 joined instanced wrapped
    (fun os started H enc _ => lifted os started H enc)

theorem plain (f : FuncId) (fn : Func) (hf : Tryz.pinned.checked.prog.funcNamed "busbar/busbarlaw14.VmBehind" = some f) (hfn : Tryz.pinned.checked.prog.funcs[f]? = some fn) :
    true = Tryz.pinned.checked.prog.looks [] ∧ ∀ (j : Nat) t, fn.params[j]? = some t → Tryz.pinned.checked.prog.wantsStandIn t = false := by
  obtain rfl : f = 3 := Option.some.inj (found.symm.trans hf) |>.symm
  obtain rfl : fn = Tryz.f3 := (Option.some.inj (Tryz.func3.symm.trans hfn)).symm
  refine ⟨by kernel_rfl, fun j t ht => ?_⟩
  rw [Tryz.params3] at ht
  have hm : t ∈ ([26, 22] : List TypeId) := by simpa using Array.mem_of_getElem? ht
  have hall : (([26, 22] : List TypeId).all fun u => !Tryz.prog.wantsStandIn u) = true := by kernel_rfl
  exact (show Tryz.prog.wantsStandIn t = false by simpa using List.all_eq_true.1 hall t hm)

theorem card : Rows.VmBehindCardSaid :=
  Claim7.holds_tied_plain_at .later [] _ _ _ _ said (fun _ h => by cases h) (by kernel_rfl) (fun _ h => by cases h) vmBehind_row_tie rfl ⟨rfl, rfl⟩ (by kernel_rfl) rfl plain (by kernel_rfl)
#print axioms card

end LawVmBehind
end Go.Proofs.YthafeadfpfibkaaGreatDoor
