/- 'FuseOnce': what a program becomes may be run, and stays: the statement holds of every input. No condition beyond the card's own: the listed variables hold what the program's text lays. -/
import Derived.Test.YtlemjkeeinjnaaaGreatDoorFrame
import Derived.Test.YtlemjkeeinjnaaaGreatDoorDoor1
import Derived.Test.YtlemjkeeinjnaaaGreatDoorFactFuseOnce
import Derived.Test.YtlemjkeeinjnaaaGreatDoorOpen4
import Derived.Test.YtlemjkeeinjnaaaGreatDoorFusQ
import Derived.Test.YtlemjkeeinjnaaaGreatDoorMore
namespace Go.Proofs.YtlemjkeeinjnaaaGreatDoor
open Go.ChangeShapes Go.WideShapes Go.ChangeAt Go.RowKit Go.Proofs.YtlemjkeeinjnaaaGreatDoor.Code

namespace LawFuseOnce

attribute [local go_sem ↓] Go.wp_at_zero Go.wp_at_succ


set_option maxRecDepth 100000 in
set_option maxHeartbeats 3200000 in
theorem law (a0 : Option Addr) (len0 cap0 : Nat) (ps0 : List B.Ins) (n1 : Int) (n2 : Int) (w : World) (hp0 : ProgAt w a0 len0 ps0) (hwf0 : ∀ y ∈ ps0, y.Wf) (hl0 : len0 * 40 ≤ 140737488351232) (hn0 : a0 = none → cap0 = 0) (hc0 : len0 ≤ cap0) (hR : Tabs w) (hi1 : B.In64 n1) (hi2 : B.In64 n2) :
    Calls Tryz.prog 3 #[.slice a0 len0 cap0, .int .i64 n1, .int .i64 n2] w (BoolOut true w) := by
  have _U0 := Lib.hid hn0
  have _U1 := Lib.hid hi1
  have _U2 := Lib.hid hi2
  have HP := Lib.hid hp0
  have HWF := Lib.hid hwf0
  have HR := Lib.hid hR
  have hlw : len0 ≤ 3518437208780 := by omega
  clear hp0 hwf0 hn0 hR hi1 hi2 hl0
  by_cases hm : B.MayRun ps0 n1 n2
  · have HM := Lib.hid hm
    have hlen : len0 ≤ 16384 := by rw [HP.out.len]; exact hm.len
    have HMQ := Lib.hid hm.fuse
    have HFF := Lib.hid (B.fuse_fuse hm.ok)
    clear hm
    go_enter Tryz.func3, Tryz.ntmps3
    go_wp2_with fail
    refine (fuse_yes a0 len0 cap0 hc0 ps0 n1 n2 _ HP.out HWF.out HR.out HM.out).mono ?_
    rintro e w1 ⟨ao, cp, rfl, hown, hb1⟩
    generalize B.fuse ps0 = q at *
    have HO := Lib.hid hown
    have HB1 := Lib.hid hb1
    have hs1 := hb1.size
    have hql : q.length ≤ 16384 := HMQ.out.len
    have HQWF : Hid (∀ y ∈ q, y.Wf) := fun y hy => wf_right (HMQ.out.ok.mem y hy)
    clear hown hb1
    go_wp2_with fail
    refine (works18_any _ (HR.out.below HB1.out (Nat.le_refl _))).mono ?_
    rintro e w2 ⟨rfl, hb2⟩
    have HB2 := Lib.hid (HB1.out.trans (hb2.mono hs1))
    have HP2 : Hid (ProgAt w2 ao q.length q) := HO.out.progAt.below hb2 (Nat.le_refl _)
    have hs2 := HB2.out.size
    clear hb2
    go_wp2_with fail
    refine (fuse_yes ao q.length cp HO.out.capLe2 q n1 n2 _ HP2.out HQWF.out (HR.out.below HB2.out (Nat.le_refl _)) HMQ.out).mono ?_
    rintro e w3 ⟨ao3, cp3, rfl, hown3, hb3⟩
    rw [HFF.out] at hown3 ⊢
    have HO3 := Lib.hid hown3
    have HB3 := Lib.hid (HB2.out.trans (hb3.mono hs2))
    have HP3 : Hid (ProgAt w3 ao q.length q) := HP2.out.below hb3 (Nat.le_refl _)
    have hs3 := HB3.out.size
    clear hown3 hb3
    go_wp2_with fail
    refine (program_yes ao q.length cp q n1 n2 _ HP3.out HQWF.out (HR.out.below HB3.out (Nat.le_refl _)) (by omega) HMQ.out).mono ?_
    rintro e w4 ⟨rfl, hb4⟩
    have HB4 := Lib.hid (HB3.out.trans (hb4.mono hs3))
    have HP4 : Hid (ProgAt w4 ao q.length q) := HP3.out.below hb4 (Nat.le_refl _)
    have HP4' : Hid (ProgAt w4 ao3 q.length q) := HO3.out.progAt.below hb4 (Nat.le_refl _)
    have hs4 := HB4.out.size
    clear hb4
    go_wp2_with fail
    refine (sameInstrs_yes ao3 ao q.length cp3 q.length cp q _ HP4'.out HP4.out (by omega)).mono ?_
    rintro e w5 ⟨rfl, hb5⟩
    have HB5 := Lib.hid (HB4.out.trans (hb5.mono hs4))
    clear hb5
    go_wp2_with fail
    go_ret
    exact ⟨rfl, HB5.out⟩
  · have HM : Hid (¬ B.MayRun ps0 n1 n2) := hm
    obtain ⟨T, v, hv⟩ := Er.shape _ (progEr_shape hm)
    have HV := Lib.hid hv
    clear hm hv
    go_enter Tryz.func3, Tryz.ntmps3
    go_wp2_with fail
    refine (fuse_no a0 len0 cap0 ps0 n1 n2 _ HP.out HWF.out HR.out (by omega) HM.out).mono ?_
    rintro e w1 ⟨rfl, hb1⟩
    rw [HV.out]
    have HB1 := Lib.hid hb1
    have hs1 := hb1.size
    clear hb1
    go_wp2_with fail
    refine (works18_any _ (HR.out.below HB1.out (Nat.le_refl _))).mono ?_
    rintro e w2 ⟨rfl, hb2⟩
    have HB2 := Lib.hid (HB1.out.trans (hb2.mono hs1))
    have hs2 := HB2.out.size
    clear hb2
    go_wp2_with fail
    refine (works18_any _ (HR.out.below HB2.out (Nat.le_refl _))).mono ?_
    rintro e w3 ⟨rfl, hb3⟩
    have HB3 := Lib.hid (HB2.out.trans (hb3.mono hs2))
    clear hb3
    go_wp2_with fail
    go_ret
    exact ⟨rfl, HB3.out⟩

set_option maxRecDepth 100000 in
theorem lifted (os : Os) (started : os.Started) (H : Type) (enc : TypeId × Value → H) :
    ReturnsInHanded {} Tryz.checked os 3 .any (fun w args => (Rows.fuseOnceSpec.pre enc Tryz.prog Tryz.f3 Rows.fuseOnceRow.domain false w args ∧ laidMetH Tryz.prog laid1 w) ∧ sizedMet enc Tryz.prog Tryz.f3 (OpenSpec.ofChange Rows.fuseOnceSpec) false w args)
      (Rows.fuseOnceSpec.post enc Tryz.prog Tryz.f3 false true false false) := by
  refine returnsInHanded_of_change_and (C := Tryz.checked) (X := fun w _ => laidMetH Tryz.prog laid1 w) (fun _ _ _ hh h => h.of_heap hh) own started (by kernel_rfl) Tryz.func3
    (ChangeSpec.witness_shaped (enc := enc) (C := Tryz.checked) (os := os) (X := fun w _ => laidMetH Tryz.prog laid1 w) false (World.doorLaid Tryz.prog 93 os) #[.slice none 0 0, .int .i64 0, .int .i64 0] 8 rfl (World.shaped_of_RefB (by kernel_rfl) (by kernel_rfl)) (by kernel_rfl) (by kernel_rfl) (by kernel_rfl) (door_met1 os _)) ?_
  intro W base args ds gs before hval0 hW hcnd hsz0 hL _
  have hval : ∀ (j : Nat) t v, Tryz.f3.params[j]? = some t → args[j]? = some v → Value.okWide Tryz.prog W .any base t v := hval0
  have hsz : (DataW.weightsEach Tryz.prog (Tryz.f3.params.toList ++ Rows.fuseOnceSpec.plain.varTypes Tryz.prog) (ds ++ gs)).all (· ≤ reachBytes) = true := hsz0
  have hW' := hW
  obtain ⟨p, q, hA0, hV, rfl, hfz, hnd⟩ := hW
  have hA : DataW.TrodAll enc Tryz.prog W 0 (fun _ => true) true Tryz.f3.params.toList args.toList ds p := hA0
  rw [Tryz.params3] at hA hval hsz
  have hA1 := hA
  obtain ⟨v0, vs0, d0, ds0, p0, q0, hargs, rfl, rfl, h0, r0⟩ := trodAll_cons hA
  obtain ⟨v1, vs1, d1, ds1, p1, q1, rfl, rfl, rfl, h1, r1⟩ := trodAll_cons r0
  obtain ⟨v2, vs2, d2, ds2, p2, q2, rfl, rfl, rfl, h2, r2⟩ := trodAll_cons r1
  obtain ⟨rfl, rfl, rfl⟩ := trodAll_nil r2
  obtain rfl : args = #[v0, v1, v2] := by cases args; simp_all
  obtain ⟨rfl, rfl⟩ := trodVars_none hV
  obtain ⟨a0, len0, cap0, rfl⟩ := okWide_slice Tryz.underlying22 (hval 0 22 v0 rfl rfl)
  obtain ⟨fuel0, hf0⟩ := h0
  have hn0 := open_nil hf0
  have hc0 := open_cap hf0
  obtain ⟨ps0, hp0, hwf0, hreach0⟩ := open_prog hf0
  have hr0 := hreach0 _ _ 0 hsz rfl rfl
  obtain ⟨n1, rfl, rfl, rfl, wf1⟩ := open_int Tryz.underlying3 (hval 1 3 v1 rfl rfl) h1
  obtain ⟨n2, rfl, rfl, rfl, wf2⟩ := open_int Tryz.underlying3 (hval 2 3 v2 rfl rfl) h2
  have lt0 := trodAll_lt _ _ _ _ hA1
  clear hA0 hval0 hsz0
  refine (law a0 len0 cap0 ps0 n1 n2 W hp0 hwf0 hr0 hn0 hc0 (tabs_laid1 hL) (wf_i64_in wf1) (wf_i64_in wf2)).mono fun e W' ⟨he, bel⟩ => ?_
  subst he
  exact ⟨_, rfl, _, _, _, [], _, [], hW', trodAll_mk1 (shut_bool Tryz.underlying4 _), below_trodAll laidOut bel _ _ _ _ (by kernel_rfl) hA1 lt0, rfl, bel.frame _, fun h => by cases h⟩

theorem said : Rows.FuseOnceSaid :=
  OpenClaim.holds_of_wide 3 Tryz.f3 rfl rfl rfl rfl rfl rfl rfl ⟨rfl, rfl, rfl, rfl, rfl⟩ rfl rfl rfl rfl rfl found Tryz.func3 joined instanced wrapped
    (fun os started H enc _ => lifted os started H enc)

theorem plain (f : FuncId) (fn : Func) (hf : Tryz.pinned.checked.prog.funcNamed "busbar/busbarlaw18.FuseOnce" = some f) (hfn : Tryz.pinned.checked.prog.funcs[f]? = some fn) :
    true = Tryz.pinned.checked.prog.looks [] ∧ ∀ (j : Nat) t, fn.params[j]? = some t → Tryz.pinned.checked.prog.wantsStandIn t = false := by
  obtain rfl : f = 3 := Option.some.inj (found.symm.trans hf) |>.symm
  obtain rfl : fn = Tryz.f3 := (Option.some.inj (Tryz.func3.symm.trans hfn)).symm
  refine ⟨by kernel_rfl, fun j t ht => ?_⟩
  rw [Tryz.params3] at ht
  have hm : t ∈ ([22, 3, 3] : List TypeId) := by simpa using Array.mem_of_getElem? ht
  have hall : (([22, 3, 3] : List TypeId).all fun u => !Tryz.prog.wantsStandIn u) = true := by kernel_rfl
  exact (show Tryz.prog.wantsStandIn t = false by simpa using List.all_eq_true.1 hall t hm)

theorem card : Rows.FuseOnceCardSaid :=
  Claim7.holds_tied_plain_at .later [] _ _ _ _ said (fun _ h => by cases h) (by kernel_rfl) (fun _ h => by cases h) fuseOnce_row_tie rfl ⟨rfl, rfl⟩ (by kernel_rfl) rfl plain (by kernel_rfl)
#print axioms card

end LawFuseOnce
end Go.Proofs.YtlemjkeeinjnaaaGreatDoor
