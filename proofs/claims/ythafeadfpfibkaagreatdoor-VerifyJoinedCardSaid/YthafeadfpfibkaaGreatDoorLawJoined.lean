/- 'VerifyJoined': of two programs that may be run, the one behind the other may be: the statement holds of every input. No condition beyond the card's own: the listed variables hold what the program's text lays. -/
import Derived.Test.YthafeadfpfibkaaGreatDoorFrame
import Derived.Test.YthafeadfpfibkaaGreatDoorDoor
import Derived.Test.YthafeadfpfibkaaGreatDoorFactJoined
import Derived.Test.YthafeadfpfibkaaGreatDoorMore
namespace Go.Proofs.YthafeadfpfibkaaGreatDoor
open Go.ChangeShapes Go.WideShapes Go.ChangeAt Go.RowKit Go.Proofs.YthafeadfpfibkaaGreatDoor.Code

namespace LawJoined

attribute [local go_sem ↓] Go.wp_at_zero Go.wp_at_succ

theorem many {l : List B.Ins} {size slots : Int} (h : 0 ≤ size ∧ size ≤ 8) (h' : 0 ≤ slots ∧ slots ≤ 64) (hl : 16384 < l.length) : progEr l size slots = .plain 5 := by
  unfold progEr B.program
  rw [if_neg (by omega), if_pos hl]
  rfl
set_option maxRecDepth 100000 in
set_option maxHeartbeats 3200000 in
theorem law (a0 : Option Addr) (len0 cap0 : Nat) (ps0 : List B.Ins) (a1 : Option Addr) (len1 cap1 : Nat) (ps1 : List B.Ins) (n2 : Int) (n3 : Int) (w : World) (hp0 : ProgAt w a0 len0 ps0) (hwf0 : ∀ y ∈ ps0, y.Wf) (hl0 : len0 * 40 ≤ 140737488351232) (hn0 : a0 = none → cap0 = 0) (hp1 : ProgAt w a1 len1 ps1) (hwf1 : ∀ y ∈ ps1, y.Wf) (hl1 : len1 * 40 ≤ 140737488351232) (hn1 : a1 = none → cap1 = 0) (hR : Ready w) (hi2 : B.In64 n2) (hi3 : B.In64 n3) :
    Calls Tryz.prog 10 #[.slice a0 len0 cap0, .slice a1 len1 cap1, .int .i64 n2, .int .i64 n3] w (BoolOut true w) := by
  have HP := Lib.hid hp0
  have HWF := Lib.hid hwf0
  have HP1 := Lib.hid hp1
  have HWF1 := Lib.hid hwf1
  have HR := Lib.hid hR
  have HN1 := Lib.hid hn1
  have hlw0 : len0 ≤ 9223372036854775807 := by omega
  have hlw1 : len1 ≤ 9223372036854775807 := by omega
  clear hp0 hwf0 hp1 hwf1 hR hi2 hi3 hn0 hn1 hl0 hl1
  go_enter Tryz.func10, Tryz.ntmps10
  go_wp2_with fail
  refine (works_any _ HR.out).mono ?_
  rintro e w1 ⟨rfl, hb1⟩
  have HB1 := Lib.hid hb1
  have hs1 := hb1.size
  clear hb1
  by_cases hm : B.MayRun ps0 n2 n3
  · have HM := Lib.hid hm
    have hk0 : len0 ≤ 16384 := by rw [HP.out.len]; exact hm.len
    clear hm
    go_wp2_with fail
    refine (program_yes a0 len0 cap0 ps0 n2 n3 _ (HP.out.below HB1.out (Nat.le_refl _)) HWF.out (HR.out.tabs.below HB1.out (Nat.le_refl _)) hlw0 HM.out).mono ?_
    rintro e w2 ⟨rfl, hb2⟩
    have HB2 := Lib.hid (HB1.out.trans (hb2.mono hs1))
    have hs2 := HB2.out.size
    clear hb2
    by_cases hm : B.MayRun ps1 n2 n3
    · have HM1 := Lib.hid hm
      have hk1 : len1 ≤ 16384 := by rw [HP1.out.len]; exact hm.len
      clear hm
      go_wp2_with fail
      refine (program_yes a1 len1 cap1 ps1 n2 n3 _ (HP1.out.below HB2.out (Nat.le_refl _)) HWF1.out (HR.out.tabs.below HB2.out (Nat.le_refl _)) hlw1 HM1.out).mono ?_
      rintro e w3 ⟨rfl, hb3⟩
      have HB3 := Lib.hid (HB2.out.trans (hb3.mono hs2))
      have hs3 := HB3.out.size
      clear hb3
      go_wp2_with fail
      refine (copy_any a0 len0 cap0 ps0 _ (HP.out.below HB3.out (Nat.le_refl _)) (by omega)).mono ?_
      rintro e w4 ⟨ao, cp, rfl, hown, hb4⟩
      have HOWN := Lib.hid hown
      have HB4 := Lib.hid (HB3.out.trans (hb4.mono hs3))
      have hs4 := HB4.out.size
      have hsw := hb4.size
      clear hown hb4
      go_wp2_with (at_builtin; refine app_more rfl _ _ rfl w3.heap.size rfl HOWN.out rfl (HP1.out.below HB4.out (Nat.le_refl _)) HN1.out (by omega) hsw ?_; intro ao' cp' w5 hown5 hb5 hs5)
      have HOWN5 := Lib.hid hown5
      have HB5 := Lib.hid (HB4.out.trans (hb5.mono hs3))
      have hsz5 := HB5.out.size
      clear hown5 hb5
      have HWF5 : Hid (∀ y ∈ ps0 ++ ps1, y.Wf) := by
        show ∀ y ∈ ps0 ++ ps1, y.Wf
        intro y hy
        rcases List.mem_append.1 hy with h | h
        · exact HWF.out y h
        · exact HWF1.out y h
      have hlen5 := HOWN5.out.len
      by_cases hgt : len0 + len1 ≤ 16384
      · have HJ := Lib.hid (HM.out.append HM1.out (by rw [← hlen5]; exact hgt))
        clear hlen5
        refine (program_yes ao' (len0 + len1) cp' (ps0 ++ ps1) n2 n3 _ HOWN5.out.progAt HWF5.out (HR.out.tabs.below HB5.out (Nat.le_refl _)) (by omega) HJ.out).mono ?_
        rintro e w6 ⟨rfl, hb6⟩
        have HB6 := Lib.hid (HB5.out.trans (hb6.mono hsz5))
        clear hb6
        go_wp2_with fail
        go_ret
        exact ⟨rfl, HB6.out⟩
      · refine (program_er ao' (len0 + len1) cp' (ps0 ++ ps1) n2 n3 _ HOWN5.out.progAt HWF5.out (HR.out.tabs.below HB5.out (Nat.le_refl _)) (by omega)).mono ?_
        rintro e w6 ⟨rfl, hb6⟩
        have HB6 := Lib.hid (HB5.out.trans (hb6.mono hsz5))
        have hs6 := HB6.out.size
        clear hb6
        rw [many HM.out.hsize HM.out.hslots (by rw [← hlen5]; omega)]
        clear hlen5
        go_wp2_with fail
        refine (plain_any (.plain 5) ⟨by omega, by omega⟩ 5 _ (HR.out.err.below HB6.out (Nat.le_refl _))).mono ?_
        rintro e w7 ⟨rfl, hb7⟩
        have ea : plainB (.plain 5) 5 = true := by decide
        rw [ea]
        have HB7 := Lib.hid (HB6.out.trans (hb7.mono hs6))
        clear hb7 ea
        go_wp2_with fail
        go_ret
        exact ⟨rfl, HB7.out⟩
    · have HM1 := Lib.hid hm
      clear hm
      go_wp2_with fail
      refine (program_no a1 len1 cap1 ps1 n2 n3 _ (HP1.out.below HB2.out (Nat.le_refl _)) HWF1.out (HR.out.tabs.below HB2.out (Nat.le_refl _)) hlw1 HM1.out).mono ?_
      rintro e w3 ⟨⟨T, v, rfl⟩, hb3⟩
      have HB3 := Lib.hid (HB2.out.trans (hb3.mono hs2))
      clear hb3
      go_wp2_with fail
      go_ret
      exact ⟨rfl, HB3.out⟩
  · have HM := Lib.hid hm
    clear hm
    go_wp2_with fail
    refine (program_no a0 len0 cap0 ps0 n2 n3 _ (HP.out.below HB1.out (Nat.le_refl _)) HWF.out (HR.out.tabs.below HB1.out (Nat.le_refl _)) hlw0 HM.out).mono ?_
    rintro e w2 ⟨⟨T, v, rfl⟩, hb2⟩
    have HB2 := Lib.hid (HB1.out.trans (hb2.mono hs1))
    clear hb2
    go_wp2_with fail
    go_ret
    exact ⟨rfl, HB2.out⟩


set_option maxRecDepth 100000 in
theorem lifted (os : Os) (started : os.Started) (H : Type) (enc : TypeId × Value → H) :
    ReturnsInHanded {} Tryz.checked os 10 .any (fun w args => (Rows.verifyJoinedSpec.pre enc Tryz.prog Tryz.f10 Rows.verifyJoinedRow.domain false w args ∧ laidMetH Tryz.prog laid2 w) ∧ sizedMet enc Tryz.prog Tryz.f10 (OpenSpec.ofChange Rows.verifyJoinedSpec) false w args)
      (Rows.verifyJoinedSpec.post enc Tryz.prog Tryz.f10 false true false false) := by
  refine returnsInHanded_of_change_and (C := Tryz.checked) (X := fun w _ => laidMetH Tryz.prog laid2 w) (fun _ _ _ hh h => h.of_heap hh) own started (by kernel_rfl) Tryz.func10
    (ChangeSpec.witness_shaped (enc := enc) (C := Tryz.checked) (os := os) (X := fun w _ => laidMetH Tryz.prog laid2 w) false (World.doorLaid Tryz.prog 93 os) #[.slice none 0 0, .slice none 0 0, .int .i64 0, .int .i64 0] 8 rfl (World.shaped_of_RefB (by kernel_rfl) (by kernel_rfl)) (by kernel_rfl) (by kernel_rfl) (by kernel_rfl) (door_met2 os _)) ?_
  intro W base args ds gs before hval0 hW hcnd hsz0 hL _
  have hval : ∀ (j : Nat) t v, Tryz.f10.params[j]? = some t → args[j]? = some v → Value.okWide Tryz.prog W .any base t v := hval0
  have hsz : (DataW.weightsEach Tryz.prog (Tryz.f10.params.toList ++ Rows.verifyJoinedSpec.plain.varTypes Tryz.prog) (ds ++ gs)).all (· ≤ reachBytes) = true := hsz0
  have hW' := hW
  obtain ⟨p, q, hA0, hV, rfl, hfz, hnd⟩ := hW
  have hA : DataW.TrodAll enc Tryz.prog W 0 (fun _ => true) true Tryz.f10.params.toList args.toList ds p := hA0
  rw [Tryz.params10] at hA hval hsz
  have hA1 := hA
  obtain ⟨v0, vs0, d0, ds0, p0, q0, hargs, rfl, rfl, h0, r0⟩ := trodAll_cons hA
  obtain ⟨v1, vs1, d1, ds1, p1, q1, rfl, rfl, rfl, h1, r1⟩ := trodAll_cons r0
  obtain ⟨v2, vs2, d2, ds2, p2, q2, rfl, rfl, rfl, h2, r2⟩ := trodAll_cons r1
  obtain ⟨v3, vs3, d3, ds3, p3, q3, rfl, rfl, rfl, h3, r3⟩ := trodAll_cons r2
  obtain ⟨rfl, rfl, rfl⟩ := trodAll_nil r3
  obtain rfl : args = #[v0, v1, v2, v3] := by cases args; simp_all
  obtain ⟨rfl, rfl⟩ := trodVars_none hV
  obtain ⟨a0, len0, cap0, rfl⟩ := okWide_slice Tryz.underlying22 (hval 0 22 v0 rfl rfl)
  obtain ⟨fuel0, hf0⟩ := h0
  have hn0 := open_nil hf0
  obtain ⟨ps0, hp0, hwf0, hreach0⟩ := open_prog hf0
  have hr0 := hreach0 _ _ 0 hsz rfl rfl
  obtain ⟨a1, len1, cap1, rfl⟩ := okWide_slice Tryz.underlying22 (hval 1 22 v1 rfl rfl)
  obtain ⟨fuel1, hf1⟩ := h1
  have hn1 := open_nil hf1
  obtain ⟨ps1, hp1, hwf1, hreach1⟩ := open_prog hf1
  have hr1 := hreach1 _ _ 1 hsz rfl rfl
  obtain ⟨n2, rfl, rfl, rfl, wf2⟩ := open_int Tryz.underlying3 (hval 2 3 v2 rfl rfl) h2
  obtain ⟨n3, rfl, rfl, rfl, wf3⟩ := open_int Tryz.underlying3 (hval 3 3 v3 rfl rfl) h3
  have lt0 := trodAll_lt _ _ _ _ hA1
  clear hA0 hval0 hsz0
  refine (law a0 len0 cap0 ps0 a1 len1 cap1 ps1 n2 n3 W hp0 hwf0 hr0 hn0 hp1 hwf1 hr1 hn1 (ready_laid hL) (wf_i64_in wf2) (wf_i64_in wf3)).mono fun e W' ⟨he, bel⟩ => ?_
  subst he
  exact ⟨_, rfl, _, _, _, [], _, [], hW', trodAll_mk1 (shut_bool Tryz.underlying4 _), below_trodAll laidOut bel _ _ _ _ (by kernel_rfl) hA1 lt0, rfl, bel.frame _, fun h => by cases h⟩

theorem said : Rows.VerifyJoinedSaid :=
  OpenClaim.holds_of_wide 10 Tryz.f10 rfl rfl rfl rfl rfl rfl rfl ⟨rfl, rfl, rfl, rfl, rfl⟩ rfl rfl rfl rfl rfl found Tryz.func10 joined instanced wrapped
    (fun os started H enc _ => lifted os started H enc)

theorem plain (f : FuncId) (fn : Func) (hf : Tryz.pinned.checked.prog.funcNamed "busbar/busbarlaw13.VerifyJoined" = some f) (hfn : Tryz.pinned.checked.prog.funcs[f]? = some fn) :
    true = Tryz.pinned.checked.prog.looks [] ∧ ∀ (j : Nat) t, fn.params[j]? = some t → Tryz.pinned.checked.prog.wantsStandIn t = false := by
  obtain rfl : f = 10 := Option.some.inj (found.symm.trans hf) |>.symm
  obtain rfl : fn = Tryz.f10 := (Option.some.inj (Tryz.func10.symm.trans hfn)).symm
  refine ⟨by kernel_rfl, fun j t ht => ?_⟩
  rw [Tryz.params10] at ht
  have hm : t ∈ ([22, 22, 3, 3] : List TypeId) := by simpa using Array.mem_of_getElem? ht
  have hall : (([22, 22, 3, 3] : List TypeId).all fun u => !Tryz.prog.wantsStandIn u) = true := by kernel_rfl
  exact (show Tryz.prog.wantsStandIn t = false by simpa using List.all_eq_true.1 hall t hm)

theorem card : Rows.VerifyJoinedCardSaid :=
  Claim7.holds_tied_plain_at .later [] _ _ _ _ said (fun _ h => by cases h) (by kernel_rfl) (fun _ h => by cases h) verifyJoined_row_tie rfl ⟨rfl, rfl⟩ (by kernel_rfl) rfl plain (by kernel_rfl)
#print axioms card

end LawJoined
end Go.Proofs.YthafeadfpfibkaaGreatDoor
