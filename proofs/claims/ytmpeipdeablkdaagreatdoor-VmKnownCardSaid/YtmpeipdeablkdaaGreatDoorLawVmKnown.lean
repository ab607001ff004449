/- 'VmKnown': the chapter's examples, each operation with what it takes at its ends, bytes laid and read again, one program cut anywhere: the closed statement holds. No condition beyond the card's own: the listed variables hold what the program's text lays. -/
import Derived.Test.YtmpeipdeablkdaaGreatDoorFrame
import Derived.Test.YtmpeipdeablkdaaGreatDoorDoor
import Derived.Test.YtmpeipdeablkdaaGreatDoorFactVmKnown
import Derived.Test.YtmpeipdeablkdaaGreatDoorVkE
import Derived.Test.YtmpeipdeablkdaaGreatDoorRunB
import Derived.Test.YtmpeipdeablkdaaGreatDoorLawsV
namespace Go.Proofs.YtmpeipdeablkdaaGreatDoor
open Go.ChangeShapes Go.WideShapes Go.ChangeAt Go.RowKit Go.Proofs.YtmpeipdeablkdaaGreatDoor.Code

namespace LawVmKnown

attribute [local go_sem ↓] Go.wp_at_zero Go.wp_at_succ

theorem runs : RunsLaw := fun a len cap ps pa pn pc pay ia im ic inp w h1 h2 h3 h4 h5 h6 h7 h8 h9 h10 h11 h12 h13 h14 h15 => LawVmRuns.law a len cap ps pa pn pc pay ia im ic inp w h1 h2 h3 h4 h5 h6 h7 h8 h9 h10 h11 h12 h13 h14 h15
theorem ends : EndsLaw := fun a len cap ps pa pn pc pay ia im ic inp w h1 h2 h3 h4 h5 h6 h7 h8 h9 h10 h11 h12 h13 => LawVmEnds.law a len cap ps pa pn pc pay ia im ic inp w h1 h2 h3 h4 h5 h6 h7 h8 h9 h10 h11 h12 h13
theorem bytes : BytesLaw := fun pa pn pc pay v f n b w h1 h2 h3 h4 h5 h6 h7 h8 => LawVmBytes.law pa pn pc pay v f n b w h1 h2 h3 h4 h5 h6 h7 h8
theorem behind : BehindLaw := fun a len cap ps pa pn pc pay ia im ic inp a1 len1 cap1 ps1 w h1 h2 h3 h4 h5 h6 h7 h8 h9 h10 h11 h12 h13 h14 h15 => LawVmBehind.law a len cap ps pa pn pc pay ia im ic inp a1 len1 cap1 ps1 w h1 h2 h3 h4 h5 h6 h7 h8 h9 h10 h11 h12 h13 h14 h15
theorem skips : SkipsLaw := fun a len cap ps pa pn pc pay ia im ic inp a1 len1 cap1 ps1 w h1 h2 h3 h4 h5 h6 h7 h8 h9 h10 h11 h12 h13 h14 h15 => LawVmSkips.law a len cap ps pa pn pc pay ia im ic inp a1 len1 cap1 ps1 w h1 h2 h3 h4 h5 h6 h7 h8 h9 h10 h11 h12 h13 h14 h15
theorem named : NamedLaw := fun a len cap ps pa pn pc pay ia im ic inp n1 n2 w h1 h2 h3 h4 h5 h6 h7 h8 h9 h10 h11 h12 h13 => LawVmNamed.law a len cap ps pa pn pc pay ia im ic inp n1 n2 w h1 h2 h3 h4 h5 h6 h7 h8 h9 h10 h11 h12 h13
set_option maxRecDepth 100000 in
set_option maxHeartbeats 3200000 in
theorem law  (w : World) (hR : Ready w) :
    Calls Tryz.prog 4 #[] w (BoolOut true w) := by
 exact vmKnown14_any runs ends bytes behind skips named w hR

set_option maxRecDepth 100000 in
theorem lifted (os : Os) (started : os.Started) (H : Type) (enc : TypeId × Value → H) :
    ReturnsInHanded {} Tryz.checked os 4 .any (fun w args => (Rows.vmKnownSpec.pre enc Tryz.prog Tryz.f4 Rows.vmKnownRow.domain false w args ∧ laidMetH Tryz.prog laid2 w) ∧ sizedMet enc Tryz.prog Tryz.f4 (OpenSpec.ofChange Rows.vmKnownSpec) false w args)
     (Rows.vmKnownSpec.post enc Tryz.prog Tryz.f4 false true false false) := by
 refine returnsInHanded_of_change_and (C := Tryz.checked) (X := fun w _ => laidMetH Tryz.prog laid2 w) (fun _ _ _ hh h => h.of_heap hh) own started (by kernel_rfl) Tryz.func4
  (ChangeSpec.witness_shaped (enc := enc) (C := Tryz.checked) (os := os) (X := fun w _ => laidMetH Tryz.prog laid2 w) false (World.doorLaid Tryz.prog 93 os) #[] 8 rfl (World.shaped_of_RefB (by kernel_rfl) (by kernel_rfl)) (by kernel_rfl) (by kernel_rfl) (by kernel_rfl) (door_met2 os _)) ?_
 intro W base args ds gs before hval0 hW hcnd hsz0 hL _
 have hval : ∀ (j : Nat) t v, Tryz.f4.params[j]? = some t → args[j]? = some v → Value.okWide Tryz.prog W .any base t v := hval0
 have hsz : (DataW.weightsEach Tryz.prog (Tryz.f4.params.toList ++ Rows.vmKnownSpec.plain.varTypes Tryz.prog) (ds ++ gs)).all (· ≤ reachBytes) = true := hsz0
 have hW' := hW
 obtain ⟨p, q, hA0, hV, rfl, hfz, hnd⟩ := hW
 have hA : DataW.TrodAll enc Tryz.prog W 0 (fun _ => true) true Tryz.f4.params.toList args.toList ds p := hA0
 rw [Tryz.params4] at hA hval hsz
 have hA1 := hA
 obtain ⟨hargs, rfl, rfl⟩ := trodAll_nil hA
 obtain rfl : args = #[] := by cases args; simp_all
 obtain ⟨rfl, rfl⟩ := trodVars_none hV
 have lt0 := trodAll_lt _ _ _ _ hA1
 clear hA0 hval0 hsz0
 refine (law  W  (ready_laid hL) ).mono fun e W' ⟨he, bel⟩ => ?_
 subst he
 exact ⟨_, rfl, _, _, _, [], _, [], hW', trodAll_mk1 (shut_bool Tryz.underlying4 _), below_trodAll laidOut bel _ _ _ _ (by kernel_rfl) hA1 lt0, rfl, bel.frame _, fun h => by cases h⟩

theorem said : Rows.VmKnownSaid :=
 OpenClaim.holds_of_wide 4 Tryz.f4 rfl rfl rfl rfl rfl rfl rfl ⟨rfl, rfl, rfl, rfl, rfl⟩ rfl rfl rfl rfl rfl found Tryz.func4 joined instanced wrapped
  (fun os started H enc _ => lifted os started H enc)

theorem plain (f : FuncId) (fn : Func) (hf : Tryz.pinned.checked.prog.funcNamed "busbar/busbarlaw14.VmKnown" = some f) (hfn : Tryz.pinned.checked.prog.funcs[f]? = some fn) :
    true = Tryz.pinned.checked.prog.looks [] ∧ ∀ (j : Nat) t, fn.params[j]? = some t → Tryz.pinned.checked.prog.wantsStandIn t = false := by
 obtain rfl : f = 4 := Option.some.inj (found.symm.trans hf) |>.symm
 obtain rfl : fn = Tryz.f4 := (Option.some.inj (Tryz.func4.symm.trans hfn)).symm
 refine ⟨by kernel_rfl, fun j t ht => ?_⟩
 rw [Tryz.params4] at ht
 have hm : t ∈ ([] : List TypeId) := by simpa using Array.mem_of_getElem? ht
 have hall : (([] : List TypeId).all fun u => !Tryz.prog.wantsStandIn u) = true := by kernel_rfl
 exact (show Tryz.prog.wantsStandIn t = false by simpa using List.all_eq_true.1 hall t hm)

theorem card : Rows.VmKnownCardSaid :=
 Claim7.holds_tied_plain_at .later [] _ _ _ _ said (fun _ h => by cases h) (by kernel_rfl) (fun _ h => by cases h) vmKnown_row_tie rfl ⟨rfl, rfl⟩ (by kernel_rfl) rfl plain (by kernel_rfl)
#print axioms card

end LawVmKnown
end Go.Proofs.YtmpeipdeablkdaaGreatDoor
