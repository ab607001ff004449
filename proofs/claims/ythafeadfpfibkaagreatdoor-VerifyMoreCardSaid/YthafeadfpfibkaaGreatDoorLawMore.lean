/- 'VerifyMore': what may be run, may be run for more bytes and slots: the statement holds of every input. No condition beyond the card's own: the listed variables hold what the program's text lays. -/
import Derived.Test.YthafeadfpfibkaaGreatDoorFrame
import Derived.Test.YthafeadfpfibkaaGreatDoorDoor
import Derived.Test.YthafeadfpfibkaaGreatDoorFactMore
namespace Go.Proofs.YthafeadfpfibkaaGreatDoor
open Go.ChangeShapes Go.WideShapes Go.ChangeAt Go.RowKit Go.Proofs.YthafeadfpfibkaaGreatDoor.Code

namespace LawMore

attribute [local go_sem ↓] Go.wp_at_zero Go.wp_at_succ

set_option maxRecDepth 100000 in
set_option maxHeartbeats 1600000 in
theorem law (a : Option Addr) (len cap : Nat) (ps : List B.Ins) (size slots more most : Int) (w : World) (hp : ProgAt w a len ps) (hwf : ∀ y ∈ ps, y.Wf) (hR : Ready w) (hl : len ≤ 9223372036854775807) (hm1 : B.In64 more) (hm2 : B.In64 most) :
    Calls Tryz.prog 9 #[.slice a len cap, .int .i64 size, .int .i64 slots, .int .i64 more, .int .i64 most] w (BoolOut true w) := by
  have HP := Lib.hid hp
  have HWF := Lib.hid hwf
  have HR := Lib.hid hR
  have H1 := Lib.hid hm1
  have H2 := Lib.hid hm2
  clear hp hwf hR hm1 hm2
  go_enter Tryz.func9, Tryz.ntmps9
  go_wp2_with fail
  refine (works_any _ HR.out).mono ?_
  rintro e w1 ⟨rfl, hb1⟩
  have HB1 := Lib.hid hb1
  have hs1 := hb1.size
  clear hb1
  go_wp2_with fail
  refine (program_yes none 0 0 [] 0 0 _ (progAt_nil _) (fun y hy => by cases hy) (HR.out.tabs.below HB1.out (Nat.le_refl _)) (by omega) (B.mayRun_nil (by omega) (by omega))).mono ?_
  rintro e w2 ⟨rfl, hb2⟩
  have HB2 := Lib.hid (HB1.out.trans (hb2.mono hs1))
  have hs2 := HB2.out.size
  clear hb2
  by_cases hm : B.MayRun ps size slots
  · have HM := Lib.hid hm
    have hsz := hm.hsize
    have hsl := hm.hslots
    have hv1 := pickV_range more (9 - size) (by omega)
    have hv2 := pickV_range most (65 - slots) (by omega)
    have hw1 : IntKind.i64.wrap (9 - size) = 9 - size := IntWalk.i64_in _ (by omega)
    have hw2 : IntKind.i64.wrap (65 - slots) = 65 - slots := IntWalk.i64_in _ (by omega)
    have hw3 : IntKind.i64.wrap (size + pickV more (9 - size)) = size + pickV more (9 - size) := IntWalk.i64_in _ (by omega)
    have hw4 : IntKind.i64.wrap (slots + pickV most (65 - slots)) = slots + pickV most (65 - slots) := IntWalk.i64_in _ (by omega)
    have hmore := Lib.hid (hm.more (a := size + pickV more (9 - size)) (b := slots + pickV most (65 - slots)) (by omega) (by omega) (by omega) (by omega))
    have hc1 := pick_any more (9 - size) H1.out (by omega) (by omega)
    have hc2 := pick_any most (65 - slots) H2.out (by omega) (by omega)
    have HC1 := Lib.hid hc1
    have HC2 := Lib.hid hc2
    clear hc1 hc2 hm hsz hsl hv1 hv2
    go_wp2_with fail
    refine (program_yes a len cap ps size slots _ (HP.out.below HB2.out (Nat.le_refl _)) HWF.out (HR.out.tabs.below HB2.out (Nat.le_refl _)) hl HM.out).mono ?_
    rintro e w3 ⟨rfl, hb3⟩
    have HB3 := Lib.hid (HB2.out.trans (hb3.mono hs2))
    have hs3 := HB3.out.size
    clear hb3
    go_wp2_with (first
      | (go_at_call 20; guard_hyp HC1; refine (HC1.out _).mono ?_; rintro e w4 ⟨rfl, rfl⟩; clear HC1)
      | (go_at_call 20; refine (HC2.out _).mono ?_; rintro e w4 ⟨rfl, rfl⟩))
    refine (program_yes a len cap ps _ _ _ (HP.out.below HB3.out (Nat.le_refl _)) HWF.out (HR.out.tabs.below HB3.out (Nat.le_refl _)) hl hmore.out).mono ?_
    rintro e w4 ⟨rfl, hb4⟩
    have HB4 := Lib.hid (HB3.out.trans (hb4.mono hs3))
    clear hb4
    go_wp2_with fail
    go_ret
    exact ⟨rfl, HB4.out⟩
  · have HM := Lib.hid hm
    clear hm
    go_wp2_with fail
    refine (program_no a len cap ps size slots _ (HP.out.below HB2.out (Nat.le_refl _)) HWF.out (HR.out.tabs.below HB2.out (Nat.le_refl _)) hl HM.out).mono ?_
    rintro e w3 ⟨⟨T, v, rfl⟩, hb3⟩
    have HB3 := Lib.hid (HB2.out.trans (hb3.mono hs2))
    clear hb3
    go_wp2_with fail
    go_ret
    exact ⟨rfl, HB3.out⟩

set_option maxRecDepth 100000 in
theorem lifted (os : Os) (started : os.Started) (H : Type) (enc : TypeId × Value → H) :
    ReturnsInHanded {} Tryz.checked os 9 .any (fun w args => (Rows.verifyMoreSpec.pre enc Tryz.prog Tryz.f9 Rows.verifyMoreRow.domain false w args ∧ laidMetH Tryz.prog laid2 w) ∧ sizedMet enc Tryz.prog Tryz.f9 (OpenSpec.ofChange Rows.verifyMoreSpec) false w args)
      (Rows.verifyMoreSpec.post enc Tryz.prog Tryz.f9 false true false false) := by
  refine returnsInHanded_of_change_and (C := Tryz.checked) (X := fun w _ => laidMetH Tryz.prog laid2 w) (fun _ _ _ hh h => h.of_heap hh) own started (by kernel_rfl) Tryz.func9
    (ChangeSpec.witness_shaped (enc := enc) (C := Tryz.checked) (os := os) (X := fun w _ => laidMetH Tryz.prog laid2 w) false (World.doorLaid Tryz.prog 93 os) #[.slice none 0 0, .int .i64 0, .int .i64 0, .int .i64 0, .int .i64 0] 8 rfl (World.shaped_of_RefB (by kernel_rfl) (by kernel_rfl)) (by kernel_rfl) (by kernel_rfl) (by kernel_rfl) (door_met2 os _)) ?_
  intro W base args ds gs before hval0 hW hcnd hsz0 hL _
  have hval : ∀ (j : Nat) t v, Tryz.f9.params[j]? = some t → args[j]? = some v → Value.okWide Tryz.prog W .any base t v := hval0
  have hsz : (DataW.weightsEach Tryz.prog (Tryz.f9.params.toList ++ Rows.verifyMoreSpec.plain.varTypes Tryz.prog) (ds ++ gs)).all (· ≤ reachBytes) = true := hsz0
  have hW' := hW
  obtain ⟨p, q, hA0, hV, rfl, hfz, hnd⟩ := hW
  have hA : DataW.TrodAll enc Tryz.prog W 0 (fun _ => true) true Tryz.f9.params.toList args.toList ds p := hA0
  rw [Tryz.params9] at hA hval hsz
  have hA1 := hA
  obtain ⟨v0, vs0, d0, ds0, p0, q0, hargs, rfl, rfl, h0, r0⟩ := trodAll_cons hA
  obtain ⟨v1, vs1, d1, ds1, p1, q1, rfl, rfl, rfl, h1, r1⟩ := trodAll_cons r0
  obtain ⟨v2, vs2, d2, ds2, p2, q2, rfl, rfl, rfl, h2, r2⟩ := trodAll_cons r1
  obtain ⟨v3, vs3, d3, ds3, p3, q3, rfl, rfl, rfl, h3, r3⟩ := trodAll_cons r2
  obtain ⟨v4, vs4, d4, ds4, p4, q4, rfl, rfl, rfl, h4, r4⟩ := trodAll_cons r3
  obtain ⟨rfl, rfl, rfl⟩ := trodAll_nil r4
  obtain rfl : args = #[v0, v1, v2, v3, v4] := by cases args; simp_all
  obtain ⟨rfl, rfl⟩ := trodVars_none hV
  obtain ⟨a0, len0, cap0, rfl⟩ := okWide_slice Tryz.underlying22 (hval 0 22 v0 rfl rfl)
  obtain ⟨n1, rfl, rfl, rfl, wf1⟩ := open_int Tryz.underlying3 (hval 1 3 v1 rfl rfl) h1
  obtain ⟨n2, rfl, rfl, rfl, wf2⟩ := open_int Tryz.underlying3 (hval 2 3 v2 rfl rfl) h2
  obtain ⟨n3, rfl, rfl, rfl, wf3⟩ := open_int Tryz.underlying3 (hval 3 3 v3 rfl rfl) h3
  obtain ⟨n4, rfl, rfl, rfl, wf4⟩ := open_int Tryz.underlying3 (hval 4 3 v4 rfl rfl) h4
  obtain ⟨fuel, hf⟩ := h0
  obtain ⟨ps, hp, hwf, hreach⟩ := open_prog hf
  have hr := hreach _ _ 0 hsz rfl rfl
  have lt0 := trodAll_lt _ _ _ _ hA1
  clear hA0 hval0 hsz0
  refine (law a0 len0 cap0 ps n1 n2 n3 n4 W hp hwf (ready_laid hL) (by omega) (wf_i64_in wf3) (wf_i64_in wf4)).mono fun e W' ⟨he, bel⟩ => ?_
  subst he
  exact ⟨_, rfl, _, _, _, [], _, [], hW', trodAll_mk1 (shut_bool Tryz.underlying4 _), below_trodAll laidOut bel _ _ _ _ (by kernel_rfl) hA1 lt0, rfl, bel.frame _, fun h => by cases h⟩

theorem said : Rows.VerifyMoreSaid :=
  OpenClaim.holds_of_wide 9 Tryz.f9 rfl rfl rfl rfl rfl rfl rfl ⟨rfl, rfl, rfl, rfl, rfl⟩ rfl rfl rfl rfl rfl found Tryz.func9 joined instanced wrapped
    (fun os started H enc _ => lifted os started H enc)

theorem plain (f : FuncId) (fn : Func) (hf : Tryz.pinned.checked.prog.funcNamed "busbar/busbarlaw13.VerifyMore" = some f) (hfn : Tryz.pinned.checked.prog.funcs[f]? = some fn) :
    true = Tryz.pinned.checked.prog.looks [] ∧ ∀ (j : Nat) t, fn.params[j]? = some t → Tryz.pinned.checked.prog.wantsStandIn t = false := by
  obtain rfl : f = 9 := Option.some.inj ((show Tryz.prog.funcNamed "busbar/busbarlaw13.VerifyMore" = some 9 by kernel_rfl).symm.trans hf) |>.symm
  obtain rfl : fn = Tryz.f9 := (Option.some.inj (Tryz.func9.symm.trans hfn)).symm
  refine ⟨by kernel_rfl, fun j t ht => ?_⟩
  rw [Tryz.params9] at ht
  have hm : t ∈ [22, 3, 3, 3, 3] := by simpa using Array.mem_of_getElem? ht
  have hall : ([22, 3, 3, 3, 3].all fun u => !Tryz.prog.wantsStandIn u) = true := by kernel_rfl
  exact (show Tryz.prog.wantsStandIn t = false by simpa using List.all_eq_true.1 hall t hm)

theorem card : Rows.VerifyMoreCardSaid :=
  Claim7.holds_tied_plain_at .later [] _ _ _ _ said (fun _ h => by cases h) (by kernel_rfl) (fun _ h => by cases h) verifyMore_row_tie rfl ⟨rfl, rfl⟩ (by kernel_rfl) rfl plain (by kernel_rfl)
#print axioms card

end LawMore
end Go.Proofs.YthafeadfpfibkaaGreatDoor
