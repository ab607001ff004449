/- 'VerifyProgram': of any program, in any size, with any number of slots, the error that the document tells, and its place; what is handed in stays: the statement holds of every input. No condition beyond the card's own: the listed variables hold what the program's text lays. -/
import Derived.Test.YtlemjkeeinjnaaaGreatDoorFrame
import Derived.Test.YtlemjkeeinjnaaaGreatDoorDoor
import Derived.Test.YtlemjkeeinjnaaaGreatDoorFactVerifyProgram
import Derived.Test.YtlemjkeeinjnaaaGreatDoorRefW
import Derived.Test.YtlemjkeeinjnaaaGreatDoorMore
import Derived.Test.YtlemjkeeinjnaaaGreatDoorKitA
import Derived.Test.YtlemjkeeinjnaaaGreatDoorVerG
namespace Go.Proofs.YtlemjkeeinjnaaaGreatDoor
open Go.ChangeShapes Go.WideShapes Go.ChangeAt Go.RowKit Go.Proofs.YtlemjkeeinjnaaaGreatDoor.Code

namespace LawVerifyProgram

attribute [local go_sem ↓] Go.wp_at_zero Go.wp_at_succ

theorem er_plain {n : Int} (h : 0 ≤ n ∧ n ≤ 26) : plainB (erOf (n, none)) n = true := by
  unfold plainB erOf
  by_cases h0 : n = 0
  · subst h0; rfl
  · simp only [if_neg h0, Er.num, Er.place]
    have : ((n.toNat : Nat) : Int) = n := by omega
    simp [this]

theorem er_at {n : Int} (h : 0 ≤ n ∧ n ≤ 26) (i : Nat) : atB (erOf (n, some i)) n 0 i = true := by
  unfold atB erOf
  by_cases h0 : n = 0
  · subst h0; rfl
  · simp only [if_neg h0, Er.num, Er.place]
    have : ((n.toNat : Nat) : Int) = n := by omega
    simp [this]
set_option maxRecDepth 100000 in
set_option maxHeartbeats 3200000 in
theorem law (a0 : Option Addr) (len0 cap0 : Nat) (ps0 : List B.Ins) (n1 : Int) (n2 : Int) (w : World) (hp0 : ProgAt w a0 len0 ps0) (hwf0 : ∀ y ∈ ps0, y.Wf) (hl0 : len0 * 40 ≤ 140737488351232) (hn0 : a0 = none → cap0 = 0) (hR : Ready w) (hi1 : B.In64 n1) (hi2 : B.In64 n2) :
    Calls Tryz.prog 5 #[.slice a0 len0 cap0, .int .i64 n1, .int .i64 n2] w (BoolOut true w) := by
  have _U0 := Lib.hid hn0
  have _U1 := Lib.hid hi1
  have _U2 := Lib.hid hi2
  have HP := Lib.hid hp0
  have HWF := Lib.hid hwf0
  have HR := Lib.hid hR
  have HL0 := Lib.hid hl0
  have hlw : len0 ≤ 9223372036854775807 := by omega
  clear hp0 hwf0 hn0 hR hi1 hi2 hl0
  have HRF := Lib.hid (refprog_any a0 len0 cap0 ps0 n1 n2 w HP.out HWF.out hlw)
  have HRG := Lib.hid (program_range ps0 n1 n2)
  have HOK := Lib.hid (progEr_ok ps0 n1 n2)
  have HER : Hid (progEr ps0 n1 n2 = erOf (B.program ps0 n1 n2)) := Lib.hid rfl
  unfold RefProgOut at HRF
  obtain ⟨r, hr⟩ : ∃ r, B.program ps0 n1 n2 = r := ⟨_, rfl⟩
  rw [hr] at HRF HRG HER
  clear hr
  obtain ⟨no, o⟩ := r
  unfold refOut at HRF
  cases o with
  | none =>
    have HPL := Lib.hid (er_plain HRG.out)
    clear HRG
    simp only at HRF HPL
    go_enter Tryz.func5, Tryz.ntmps5
    go_wp2_with fail
    refine HRF.out.mono ?_
    rintro e w1 ⟨rfl, hb1⟩
    have HB1 := Lib.hid hb1
    have hs1 := hb1.size
    clear hb1 HRF
    go_wp2_with fail
    refine (lent_any a0 len0 cap0 ps0 _ (HP.out.below HB1.out (Nat.le_refl _)) HL0.out).mono ?_
    rintro e w2 ⟨ao, cp, rfl, hown, hb2⟩
    have HO := Lib.hid hown
    have HB2 := Lib.hid (HB1.out.trans (hb2.mono hs1))
    have hs2 := HB2.out.size
    clear hown hb2
    go_wp2_with fail
    refine (program_er ao len0 cp ps0 n1 n2 _ (HO.out.ahead HP.out.len) HWF.out (HR.out.tabs.below HB2.out (Nat.le_refl _)) hlw).mono ?_
    rintro e w3 ⟨rfl, hb3⟩
    have HB3 := Lib.hid (HB2.out.trans (hb3.mono hs2))
    have HO3 := Lib.hid (HO.out.kept hb3)
    have hs3 := HB3.out.size
    clear hb3 HO
    go_wp2_with fail
    refine (kept_any ao cp a0 len0 cap0 _ ps0 _ HO3.out (HP.out.below HB3.out (Nat.le_refl _)) HL0.out).mono ?_
    rintro e w4 ⟨rfl, hb4⟩
    have HB4 := Lib.hid (HB3.out.trans (hb4.mono hs3))
    have hs4 := HB4.out.size
    clear hb4 HO3
    go_wp2_with fail
    refine (plain_any (progEr ps0 n1 n2) HOK.out no _ (HR.out.err.below HB4.out (Nat.le_refl _))).mono ?_
    rintro e w5 ⟨rfl, hb5⟩
    rw [HER.out, HPL.out]
    have HB5 := Lib.hid (HB4.out.trans (hb5.mono hs4))
    clear hb5
    go_wp2_with fail
    go_ret
    exact ⟨rfl, HB5.out⟩
  | some i =>
    have HPL := Lib.hid (er_at HRG.out i)
    clear HRG
    simp only at HRF HPL
    have i0 : (0 : Int) ≤ (i : Int) := by omega
    have i1 : decide ((i : Int) < 0) = false := by simp
    go_enter Tryz.func5, Tryz.ntmps5
    go_wp2_with fail
    refine HRF.out.mono ?_
    rintro e w1 ⟨rfl, hb1⟩
    have HB1 := Lib.hid hb1
    have hs1 := hb1.size
    clear hb1 HRF
    go_wp2_with fail
    refine (lent_any a0 len0 cap0 ps0 _ (HP.out.below HB1.out (Nat.le_refl _)) HL0.out).mono ?_
    rintro e w2 ⟨ao, cp, rfl, hown, hb2⟩
    have HO := Lib.hid hown
    have HB2 := Lib.hid (HB1.out.trans (hb2.mono hs1))
    have hs2 := HB2.out.size
    clear hown hb2
    go_wp2_with fail
    refine (program_er ao len0 cp ps0 n1 n2 _ (HO.out.ahead HP.out.len) HWF.out (HR.out.tabs.below HB2.out (Nat.le_refl _)) hlw).mono ?_
    rintro e w3 ⟨rfl, hb3⟩
    have HB3 := Lib.hid (HB2.out.trans (hb3.mono hs2))
    have HO3 := Lib.hid (HO.out.kept hb3)
    have hs3 := HB3.out.size
    clear hb3 HO
    go_wp2_with fail
    refine (kept_any ao cp a0 len0 cap0 _ ps0 _ HO3.out (HP.out.below HB3.out (Nat.le_refl _)) HL0.out).mono ?_
    rintro e w4 ⟨rfl, hb4⟩
    have HB4 := Lib.hid (HB3.out.trans (hb4.mono hs3))
    have hs4 := HB4.out.size
    clear hb4 HO3
    go_wp2_with fail
    refine (at_any (progEr ps0 n1 n2) HOK.out no 0 i _ (HR.out.err.below HB4.out (Nat.le_refl _))).mono ?_
    rintro e w5 ⟨rfl, hb5⟩
    rw [HER.out, HPL.out]
    have HB5 := Lib.hid (HB4.out.trans (hb5.mono hs4))
    clear hb5
    go_wp2_with fail
    go_ret
    exact ⟨rfl, HB5.out⟩

set_option maxRecDepth 100000 in
theorem lifted (os : Os) (started : os.Started) (H : Type) (enc : TypeId × Value → H) :
    ReturnsInHanded {} Tryz.checked os 5 .any (fun w args => (Rows.verifyProgramSpec.pre enc Tryz.prog Tryz.f5 Rows.verifyProgramRow.domain false w args ∧ laidMetH Tryz.prog laid2 w) ∧ sizedMet enc Tryz.prog Tryz.f5 (OpenSpec.ofChange Rows.verifyProgramSpec) false w args)
      (Rows.verifyProgramSpec.post enc Tryz.prog Tryz.f5 false true false false) := by
  refine returnsInHanded_of_change_and (C := Tryz.checked) (X := fun w _ => laidMetH Tryz.prog laid2 w) (fun _ _ _ hh h => h.of_heap hh) own started (by kernel_rfl) Tryz.func5
    (ChangeSpec.witness_shaped (enc := enc) (C := Tryz.checked) (os := os) (X := fun w _ => laidMetH Tryz.prog laid2 w) false (World.doorLaid Tryz.prog 93 os) #[.slice none 0 0, .int .i64 0, .int .i64 0] 8 rfl (World.shaped_of_RefB (by kernel_rfl) (by kernel_rfl)) (by kernel_rfl) (by kernel_rfl) (by kernel_rfl) (door_met2 os _)) ?_
  intro W base args ds gs before hval0 hW hcnd hsz0 hL _
  have hval : ∀ (j : Nat) t v, Tryz.f5.params[j]? = some t → args[j]? = some v → Value.okWide Tryz.prog W .any base t v := hval0
  have hsz : (DataW.weightsEach Tryz.prog (Tryz.f5.params.toList ++ Rows.verifyProgramSpec.plain.varTypes Tryz.prog) (ds ++ gs)).all (· ≤ reachBytes) = true := hsz0
  have hW' := hW
  obtain ⟨p, q, hA0, hV, rfl, hfz, hnd⟩ := hW
  have hA : DataW.TrodAll enc Tryz.prog W 0 (fun _ => true) true Tryz.f5.params.toList args.toList ds p := hA0
  rw [Tryz.params5] at hA hval hsz
  have hA1 := hA
  obtain ⟨v0, vs0, d0, ds0, p0, q0, hargs, rfl, rfl, h0, r0⟩ := trodAll_cons hA
  obtain ⟨v1, vs1, d1, ds1, p1, q1, rfl, rfl, rfl, h1, r1⟩ := trodAll_cons r0
  obtain ⟨v2, vs2, d2, ds2, p2, q2, rfl, rfl, rfl, h2, r2⟩ := trodAll_cons r1
  obtain ⟨rfl, rfl, rfl⟩ := trodAll_nil r2
  obtain rfl : args = #[v0, v1, v2] := by cases args; simp_all
  obtain ⟨rfl, rfl⟩ := trodVars_none hV
  obtain ⟨a0, len0, cap0, rfl⟩ := okWide_slice Tryz.underlying22 (hval 0 22 v0 rfl rfl)
  obtain ⟨fuel0, hf0⟩ := h0
  have hn0 := open_nil hf0
  obtain ⟨ps0, hp0, hwf0, hreach0⟩ := open_prog hf0
  have hr0 := hreach0 _ _ 0 hsz rfl rfl
  obtain ⟨n1, rfl, rfl, rfl, wf1⟩ := open_int Tryz.underlying3 (hval 1 3 v1 rfl rfl) h1
  obtain ⟨n2, rfl, rfl, rfl, wf2⟩ := open_int Tryz.underlying3 (hval 2 3 v2 rfl rfl) h2
  have lt0 := trodAll_lt _ _ _ _ hA1
  clear hA0 hval0 hsz0
  refine (law a0 len0 cap0 ps0 n1 n2 W hp0 hwf0 hr0 hn0 (ready_laid hL) (wf_i64_in wf1) (wf_i64_in wf2)).mono fun e W' ⟨he, bel⟩ => ?_
  subst he
  exact ⟨_, rfl, _, _, _, [], _, [], hW', trodAll_mk1 (shut_bool Tryz.underlying4 _), below_trodAll laidOut bel _ _ _ _ (by kernel_rfl) hA1 lt0, rfl, bel.frame _, fun h => by cases h⟩

theorem said : Rows.VerifyProgramSaid :=
  OpenClaim.holds_of_wide 5 Tryz.f5 rfl rfl rfl rfl rfl rfl rfl ⟨rfl, rfl, rfl, rfl, rfl⟩ rfl rfl rfl rfl rfl found Tryz.func5 joined instanced wrapped
    (fun os started H enc _ => lifted os started H enc)

theorem plain (f : FuncId) (fn : Func) (hf : Tryz.pinned.checked.prog.funcNamed "busbar/busbarlaw13.VerifyProgram" = some f) (hfn : Tryz.pinned.checked.prog.funcs[f]? = some fn) :
    true = Tryz.pinned.checked.prog.looks [] ∧ ∀ (j : Nat) t, fn.params[j]? = some t → Tryz.pinned.checked.prog.wantsStandIn t = false := by
  obtain rfl : f = 5 := Option.some.inj (found.symm.trans hf) |>.symm
  obtain rfl : fn = Tryz.f5 := (Option.some.inj (Tryz.func5.symm.trans hfn)).symm
  refine ⟨by kernel_rfl, fun j t ht => ?_⟩
  rw [Tryz.params5] at ht
  have hm : t ∈ ([22, 3, 3] : List TypeId) := by simpa using Array.mem_of_getElem? ht
  have hall : (([22, 3, 3] : List TypeId).all fun u => !Tryz.prog.wantsStandIn u) = true := by kernel_rfl
  exact (show Tryz.prog.wantsStandIn t = false by simpa using List.all_eq_true.1 hall t hm)

theorem card : Rows.VerifyProgramCardSaid :=
  Claim7.holds_tied_plain_at .later [] _ _ _ _ said (fun _ h => by cases h) (by kernel_rfl) (fun _ h => by cases h) verifyProgram_row_tie rfl ⟨rfl, rfl⟩ (by kernel_rfl) rfl plain (by kernel_rfl)
#print axioms card

end LawVerifyProgram
end Go.Proofs.YtlemjkeeinjnaaaGreatDoor
