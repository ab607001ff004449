/- 'VmEnds': what may be run is run without an error, in at most as many steps as there are instructions; what may not is refused; the sizes of what comes of it: the statement holds of every input. No condition beyond the card's own: the listed variables hold what the program's text lays. -/
import Derived.Test.YthafeadfpfibkaaGreatDoorFrame
import Derived.Test.YthafeadfpfibkaaGreatDoorDoor1
import Derived.Test.YthafeadfpfibkaaGreatDoorFactVmEnds
import Derived.Test.YthafeadfpfibkaaGreatDoorVmT
import Derived.Test.YthafeadfpfibkaaGreatDoorOpen2
import Derived.Test.YthafeadfpfibkaaGreatDoorPlainV
namespace Go.Proofs.YthafeadfpfibkaaGreatDoor
open Go.ChangeShapes Go.WideShapes Go.ChangeAt Go.RowKit Go.Proofs.YthafeadfpfibkaaGreatDoor.Code

namespace LawVmEnds

attribute [local go_sem ↓] Go.wp_at_zero Go.wp_at_succ

theorem six {w w1 : World} {C : Array Value} {t : TypeId} (hb : Below (w.heap.size + 1) (w.alloc (.cells C t)) w1) (j : Nat) : w1.cell? ⟨w.heap.size, j, none⟩ = C[j]? :=
  (hb.cell (p := ⟨w.heap.size, j, none⟩) (by simp)).trans (cell_of_row _ _ _ _ _ _ (heap_alloc_new w _))
set_option maxRecDepth 100000 in
set_option maxHeartbeats 3200000 in
theorem law (a0 : Option Addr) (len0 cap0 : Nat) (ps0 : List B.Ins) (pa1 : Option Addr) (pn1 pc1 : Nat) (pay1 : List Nat) (ia2 : Option Addr) (im2 ic2 : Nat) (inp2 : List Nat) (w : World) (hp0 : ProgAt w a0 len0 ps0) (hwf0 : ∀ y ∈ ps0, y.Wf) (hl0 : len0 * 40 ≤ 140737488351232) (hn0 : a0 = none → cap0 = 0) (hy1 : ListAt w pa1 pn1 (pay1.map u8V)) (hb1 : B.Bytes pay1) (hyn1 : pa1 = none → pc1 = 0) (hyl1 : pn1 ≤ 9223372036854775807) (hu2 : ListAt w ia2 im2 (inp2.map u64V)) (hw2 : B.Words inp2) (hun2 : ia2 = none → ic2 = 0) (hul2 : im2 ≤ 9223372036854775807) (hR : Tabs w) :
    Calls Tryz.prog 7 #[.slice a0 len0 cap0, .slice pa1 pn1 pc1, .slice ia2 im2 ic2] w (BoolOut true w) := by
  have _U0 := Lib.hid hn0
  have _U1 := Lib.hid hyn1
  have _U2 := Lib.hid hun2
  have _U3 := Lib.hid hyl1
  have HP := Lib.hid hp0
  have HWF := Lib.hid hwf0
  have HY := Lib.hid hy1
  have HBY := Lib.hid hb1
  have HU := Lib.hid hu2
  have HW := Lib.hid hw2
  have HR := Lib.hid hR
  have hlw : len0 ≤ 9223372036854775807 := by omega
  clear hp0 hwf0 hl0 hn0 hy1 hb1 hyn1 hyl1 hu2 hw2 hun2 hR
  by_cases hm : B.MayRun ps0 pn1 im2
  · have HM := Lib.hid hm
    have hlen : len0 ≤ 16384 := by rw [HP.out.len]; exact hm.len
    have him : im2 ≤ 64 := by have := hm.hslots; omega
    have hst : (B.run ps0 inp2 0 (B.start pay1 im2)).steps ≤ len0 := by have := B.steps_le ps0 inp2 0 (B.start pay1 im2); have := HP.out.len; omega
    have HH : Hid (∀ i, i < im2 → (B.run ps0 inp2 0 (B.start pay1 im2)).st.has.getD i false = false → (B.run ps0 inp2 0 (B.start pay1 im2)).st.out.getD i 0 = 0) := (B.run_lens ps0 inp2 pay1 im2).2.2
    have HK : Hid (∀ k, (B.run ps0 inp2 0 (B.start pay1 im2)).failed = some k → 0 ≤ k ∧ k < (im2 : Int)) := fun k hk => B.run_slot hm 0 _ k hk
    clear hm
    generalize hq : B.run ps0 inp2 0 (B.start pay1 im2) = r at hst HH HK
    have HQ := Lib.hid hq
    clear hq
    go_enter Tryz.func7, Tryz.ntmps7
    go_wp2_with fail
    refine (program_yes a0 len0 cap0 ps0 pn1 im2 _ HP.out HWF.out HR.out hlw HM.out).mono ?_
    rintro e w1 ⟨rfl, hb1⟩
    have HB1 := Lib.hid hb1
    have hs1 := hb1.size
    clear hb1
    go_wp2_with fail
    cases hf : r.failed with
    | none =>
      have HF := Lib.hid hf
      clear hf
      refine (run_go_any a0 pa1 ia2 len0 cap0 pn1 pc1 im2 ic2 ps0 pay1 inp2 _ (HP.out.below HB1.out (Nat.le_refl _)) HWF.out (HR.out.below HB1.out (Nat.le_refl _)) hlw HM.out (HY.out.below HB1.out (Nat.le_refl _)) (HU.out.below HB1.out (Nat.le_refl _)) HBY.out HW.out HQ.out HF.out).mono ?_
      rintro e w2 ⟨pa, pc, oa, oc, ha, hc, rfl, hok, l1, l2, l3, hb2⟩
      have HB2 := Lib.hid (HB1.out.trans (hb2.mono hs1))
      have hs2 := HB2.out.size
      have HOK := Lib.hid hok
      have L2 := Lib.hid l2
      have L3 := Lib.hid l3
      clear hb2 l1 l2 l3 hok
      go_wp2_with fail
      have hb3 := (Below.refl w2.heap.size w2).alloc (Nat.le_refl _) (.cells #[.bool false, .int .i64 0, .slice pa pn1 pc, .slice oa im2 oc, .slice ha im2 hc, .int .i64 (r.steps : Int)] 29)
      refine (works14_any _ ((HR.out.below HB2.out (Nat.le_refl _)).below hb3 (Nat.le_refl _))).mono ?_
      rintro e w4 ⟨rfl, hb4⟩
      have HB24 := Lib.hid (hb3.trans (hb4.mono (by simp)))
      have HB4 := Lib.hid (HB2.out.trans (HB24.out.mono hs2))
      have hk := fun j => six (by simpa using hb4) j
      have x0 := (hk 0).trans rfl
      have x1 := (hk 1).trans rfl
      have x2 := (hk 2).trans rfl
      have x3 := (hk 3).trans rfl
      have x4 := (hk 4).trans rfl
      have x5 := (hk 5).trans rfl
      clear hb3 hb4 hk
      go_wp2_with fail
      refine (num_nil _).mono ?_
      rintro e w5 ⟨rfl, rfl⟩
      go_wp2_with fail
      refine (num_nil _).mono ?_
      rintro e w5 ⟨rfl, rfl⟩
      go_wp2_with fail
      go_loop [10] (fun i => ∃ k : Nat, k ≤ im2 ∧ i = .int .i64 k) (fun i => im2 - (intOf i).toNat)
      case atStart => exact ⟨0, Nat.zero_le _, rfl⟩
      case round =>
        obtain ⟨k, hk, rfl⟩ := hrel
        by_cases hlt : k < im2
        · have hol : r.st.out.length = im2 := HOK.out.outl
          have hhl : r.st.has.length = im2 := HOK.out.hasl
          have ho : (r.st.out.map u64V)[k]? = some (u64V (r.st.out.getD k 0)) := by rw [List.getElem?_map, List.getD_eq_getElem?_getD, List.getElem?_eq_getElem (by omega)]; rfl
          have hh : (r.st.has.map Value.bool)[k]? = some (.bool (r.st.has.getD k false)) := by rw [List.getElem?_map, List.getD_eq_getElem?_getD, List.getElem?_eq_getElem (by omega)]; rfl
          obtain ⟨b1, o1, rfl, hl1, hc1⟩ := L2.out.at_ k _ ho
          obtain ⟨b2, o2, rfl, hl2, hc2⟩ := L3.out.at_ k _ hh
          replace hc1 := (HB24.out.cell (p := ⟨b1, o1 + k, none⟩) hl1).trans hc1
          replace hc2 := (HB24.out.cell (p := ⟨b2, o2 + k, none⟩) hl2).trans hc2
          have hz := HH.out k hlt
          clear hol hhl ho hh hl1 hl2
          cases hv : r.st.has.getD k false with
          | true =>
            rw [hv] at hc2
            clear hv hz hc1
            go_wp2_with fail
            go_round
            case rel => exact ⟨k + 1, by omega, by go_num⟩
            case measure => simp [intOf]; omega
          | false =>
            rw [hz hv] at hc1
            rw [hv] at hc2
            unfold u64V at hc1
            clear hv hz
            go_wp2_with fail
            go_round
            case rel => exact ⟨k + 1, by omega, by go_num⟩
            case measure => simp [intOf]; omega
        · obtain rfl : k = im2 := by omega
          go_wp2_with fail
          go_ret
          exact ⟨rfl, HB4.out⟩
    | some k =>
      have HF := Lib.hid hf
      have hkk := HK.out k hf
      have hk1 : ¬ (k < 0) := by omega
      have hk2 := hkk.1
      have hk3 := hkk.2
      clear hf hkk
      refine (run_fail_any a0 pa1 ia2 len0 cap0 pn1 pc1 im2 ic2 ps0 pay1 inp2 _ (HP.out.below HB1.out (Nat.le_refl _)) HWF.out (HR.out.below HB1.out (Nat.le_refl _)) hlw HM.out (HY.out.below HB1.out (Nat.le_refl _)) (HU.out.below HB1.out (Nat.le_refl _)) HBY.out HW.out HQ.out HF.out).mono ?_
      rintro e w2 ⟨rfl, hb2⟩
      have HB2 := Lib.hid (HB1.out.trans (hb2.mono hs1))
      have hs2 := HB2.out.size
      clear hb2
      go_wp2_with fail
      have hb3 := (Below.refl w2.heap.size w2).alloc (Nat.le_refl _) (.cells #[.bool true, .int .i64 k, .slice none 0 0, .slice none 0 0, .slice none 0 0, .int .i64 (r.steps : Int)] 29)
      refine (works14_any _ ((HR.out.below HB2.out (Nat.le_refl _)).below hb3 (Nat.le_refl _))).mono ?_
      rintro e w4 ⟨rfl, hb4⟩
      have HB4 := Lib.hid (HB2.out.trans ((hb3.trans (hb4.mono (by simp))).mono hs2))
      have hk := fun j => six (by simpa using hb4) j
      have x0 := (hk 0).trans rfl
      have x1 := (hk 1).trans rfl
      have x2 := (hk 2).trans rfl
      have x3 := (hk 3).trans rfl
      have x4 := (hk 4).trans rfl
      have x5 := (hk 5).trans rfl
      clear hb3 hb4 hk
      go_wp2_with fail
      refine (num_nil _).mono ?_
      rintro e w5 ⟨rfl, rfl⟩
      go_wp2_with fail
      refine (num_nil _).mono ?_
      rintro e w5 ⟨rfl, rfl⟩
      go_wp2_with fail
      go_ret
      exact ⟨rfl, HB4.out⟩
  · have HM := Lib.hid hm
    obtain ⟨T, v, he⟩ := Er.shape _ (progEr_no hm)
    have HE := Lib.hid he
    clear hm he
    go_enter Tryz.func7, Tryz.ntmps7
    go_wp2_with fail
    refine (program_er a0 len0 cap0 ps0 pn1 im2 _ HP.out HWF.out HR.out hlw).mono ?_
    rintro e w1 ⟨rfl, hb1⟩
    rw [HE.out]
    have HB1 := Lib.hid hb1
    have hs1 := hb1.size
    clear hb1
    go_wp2_with fail
    refine (run_no a0 pa1 ia2 len0 cap0 pn1 pc1 im2 ic2 ps0 _ (HP.out.below HB1.out (Nat.le_refl _)) HWF.out (HR.out.below HB1.out (Nat.le_refl _)) hlw HM.out).mono ?_
    rintro e w2 ⟨rfl, hb2⟩
    rw [HE.out]
    have HB2 := Lib.hid (HB1.out.trans (hb2.mono hs1))
    have hs2 := HB2.out.size
    clear hb2
    go_wp2_with fail
    have hb3 := (Below.refl w2.heap.size w2).alloc (Nat.le_refl _) (.cells #[.bool false, .int .i64 0, .slice none 0 0, .slice none 0 0, .slice none 0 0, .int .i64 0] 29)
    refine (works14_any _ ((HR.out.below HB2.out (Nat.le_refl _)).below hb3 (Nat.le_refl _))).mono ?_
    rintro e w4 ⟨rfl, hb4⟩
    have HB24 := Lib.hid (hb3.trans (hb4.mono (by simp)))
    have HB4 := Lib.hid (HB2.out.trans (HB24.out.mono hs2))
    have hs4 := HB4.out.size
    have HK4 : Hid (∀ j : Nat, w4.cell? ⟨w2.heap.size, j, none⟩ = (#[.bool false, .int .i64 0, .slice none 0 0, .slice none 0 0, .slice none 0 0, .int .i64 0] : Array Value)[j]?) := fun j => six (by simpa using hb4) j
    have hs24 : w2.heap.size + 1 ≤ w4.heap.size := by have := hb4.size; simpa using this
    clear hb3 hb4
    go_wp2_with fail
    have hc1 := num_any (progEr ps0 pn1 im2) (progEr_ok _ _ _) w4
    rw [HE.out] at hc1
    refine hc1.mono ?_
    rintro e w5 ⟨rfl, hb5⟩
    have HB5 := Lib.hid (HB4.out.trans (hb5.mono hs4))
    have HK5 : Hid (∀ j : Nat, w5.cell? ⟨w2.heap.size, j, none⟩ = (#[.bool false, .int .i64 0, .slice none 0 0, .slice none 0 0, .slice none 0 0, .int .i64 0] : Array Value)[j]?) := fun j => (hb5.cell (p := ⟨w2.heap.size, j, none⟩) (by show w2.heap.size < w4.heap.size; omega)).trans (HK4.out j)
    have hs5 := HB5.out.size
    have hs25 : w2.heap.size + 1 ≤ w5.heap.size := by have := hb5.size; omega
    clear hb5 hc1
    go_wp2_with fail
    have hc1 := num_any (progEr ps0 pn1 im2) (progEr_ok _ _ _) w5
    rw [HE.out] at hc1
    refine hc1.mono ?_
    rintro e w6 ⟨rfl, hb6⟩
    have HB6 := Lib.hid (HB5.out.trans (hb6.mono hs5))
    have hk := fun j : Nat => (hb6.cell (p := ⟨w2.heap.size, j, none⟩) (by show w2.heap.size < w5.heap.size; omega)).trans (HK5.out j)
    have x0 := (hk 0).trans rfl
    have x1 := (hk 1).trans rfl
    have x2 := (hk 2).trans rfl
    have x3 := (hk 3).trans rfl
    have x4 := (hk 4).trans rfl
    have x5 := (hk 5).trans rfl
    clear hb6 hc1 hk
    go_wp2_with fail
    go_ret
    exact ⟨rfl, HB6.out⟩

set_option maxRecDepth 100000 in
theorem lifted (os : Os) (started : os.Started) (H : Type) (enc : TypeId × Value → H) :
    ReturnsInHanded {} Tryz.checked os 7 .any (fun w args => (Rows.vmEndsSpec.pre enc Tryz.prog Tryz.f7 Rows.vmEndsRow.domain false w args ∧ laidMetH Tryz.prog laid1 w) ∧ sizedMet enc Tryz.prog Tryz.f7 (OpenSpec.ofChange Rows.vmEndsSpec) false w args)
      (Rows.vmEndsSpec.post enc Tryz.prog Tryz.f7 false true false false) := by
  refine returnsInHanded_of_change_and (C := Tryz.checked) (X := fun w _ => laidMetH Tryz.prog laid1 w) (fun _ _ _ hh h => h.of_heap hh) own started (by kernel_rfl) Tryz.func7
    (ChangeSpec.witness_shaped (enc := enc) (C := Tryz.checked) (os := os) (X := fun w _ => laidMetH Tryz.prog laid1 w) false (World.doorLaid Tryz.prog 93 os) #[.slice none 0 0, .slice none 0 0, .slice none 0 0] 8 rfl (World.shaped_of_RefB (by kernel_rfl) (by kernel_rfl)) (by kernel_rfl) (by kernel_rfl) (by kernel_rfl) (door_met1 os _)) ?_
  intro W base args ds gs before hval0 hW hcnd hsz0 hL _
  have hval : ∀ (j : Nat) t v, Tryz.f7.params[j]? = some t → args[j]? = some v → Value.okWide Tryz.prog W .any base t v := hval0
  have hsz : (DataW.weightsEach Tryz.prog (Tryz.f7.params.toList ++ Rows.vmEndsSpec.plain.varTypes Tryz.prog) (ds ++ gs)).all (· ≤ reachBytes) = true := hsz0
  have hW' := hW
  obtain ⟨p, q, hA0, hV, rfl, hfz, hnd⟩ := hW
  have hA : DataW.TrodAll enc Tryz.prog W 0 (fun _ => true) true Tryz.f7.params.toList args.toList ds p := hA0
  rw [Tryz.params7] at hA hval hsz
  have hA1 := hA
  obtain ⟨v0, vs0, d0, ds0, p0, q0, hargs, rfl, rfl, h0, r0⟩ := trodAll_cons hA
  obtain ⟨v1, vs1, d1, ds1, p1, q1, rfl, rfl, rfl, h1, r1⟩ := trodAll_cons r0
  obtain ⟨v2, vs2, d2, ds2, p2, q2, rfl, rfl, rfl, h2, r2⟩ := trodAll_cons r1
  obtain ⟨rfl, rfl, rfl⟩ := trodAll_nil r2
  obtain rfl : args = #[v0, v1, v2] := by cases args; simp_all
  obtain ⟨rfl, rfl⟩ := trodVars_none hV
  obtain ⟨a0, len0, cap0, rfl⟩ := okWide_slice Tryz.underlying22 (hval 0 22 v0 rfl rfl)
  obtain ⟨fuel0, hf0⟩ := h0
  have hn0 := open_nil hf0
  obtain ⟨ps0, hp0, hwf0, hreach0⟩ := open_prog hf0
  have hr0 := hreach0 _ _ 0 hsz rfl rfl
  obtain ⟨pa1, pn1, pc1, rfl⟩ := okWide_slice Tryz.underlying23 (hval 1 23 v1 rfl rfl)
  obtain ⟨fuel1, hf1⟩ := h1
  obtain ⟨pay1, hy1, hb1, hyn1, hyl1⟩ := open_bytes hf1
  obtain ⟨ia2, im2, ic2, rfl⟩ := okWide_slice Tryz.underlying24 (hval 2 24 v2 rfl rfl)
  obtain ⟨fuel2, hf2⟩ := h2
  obtain ⟨inp2, hu2, hw2, hun2, hul2⟩ := open_words hf2
  have lt0 := trodAll_lt _ _ _ _ hA1
  clear hA0 hval0 hsz0
  refine (law a0 len0 cap0 ps0 pa1 pn1 pc1 pay1 ia2 im2 ic2 inp2 W hp0 hwf0 hr0 hn0 hy1 hb1 hyn1 hyl1 hu2 hw2 hun2 hul2 (tabs_laid1 hL) ).mono fun e W' ⟨he, bel⟩ => ?_
  subst he
  exact ⟨_, rfl, _, _, _, [], _, [], hW', trodAll_mk1 (shut_bool Tryz.underlying4 _), below_trodAll laidOut bel _ _ _ _ (by kernel_rfl) hA1 lt0, rfl, bel.frame _, fun h => by cases h⟩

theorem said : Rows.VmEndsSaid :=
  OpenClaim.holds_of_wide 7 Tryz.f7 rfl rfl rfl rfl rfl rfl rfl ⟨rfl, rfl, rfl, rfl, rfl⟩ rfl rfl rfl rfl rfl found Tryz.func7 joined instanced wrapped
    (fun os started H enc _ => lifted os started H enc)

theorem plain (f : FuncId) (fn : Func) (hf : Tryz.pinned.checked.prog.funcNamed "busbar/busbarlaw14.VmEnds" = some f) (hfn : Tryz.pinned.checked.prog.funcs[f]? = some fn) :
    true = Tryz.pinned.checked.prog.looks [] ∧ ∀ (j : Nat) t, fn.params[j]? = some t → Tryz.pinned.checked.prog.wantsStandIn t = false := by
  obtain rfl : f = 7 := Option.some.inj (found.symm.trans hf) |>.symm
  obtain rfl : fn = Tryz.f7 := (Option.some.inj (Tryz.func7.symm.trans hfn)).symm
  refine ⟨by kernel_rfl, fun j t ht => ?_⟩
  rw [Tryz.params7] at ht
  have hm : t ∈ ([22, 23, 24] : List TypeId) := by simpa using Array.mem_of_getElem? ht
  have hall : (([22, 23, 24] : List TypeId).all fun u => !Tryz.prog.wantsStandIn u) = true := by kernel_rfl
  exact (show Tryz.prog.wantsStandIn t = false by simpa using List.all_eq_true.1 hall t hm)

theorem card : Rows.VmEndsCardSaid :=
  Claim7.holds_tied_plain_at .later [] _ _ _ _ said (fun _ h => by cases h) (by kernel_rfl) (fun _ h => by cases h) vmEnds_row_tie rfl ⟨rfl, rfl⟩ (by kernel_rfl) rfl plain (by kernel_rfl)
#print axioms card

end LawVmEnds
end Go.Proofs.YthafeadfpfibkaaGreatDoor
