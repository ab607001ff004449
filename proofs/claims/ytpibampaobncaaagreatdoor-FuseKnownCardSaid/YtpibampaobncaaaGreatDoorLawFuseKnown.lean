/- 'FuseKnown': the chapter's examples, all rows of bits, moves that nearly belong together, with skips into them: the closed statement holds. No condition beyond the card's own: the listed variables hold what the program's text lays. -/
import Derived.Test.YtpibampaobncaaaGreatDoorFrame
import Derived.Test.YtpibampaobncaaaGreatDoorDoor
import Derived.Test.YtpibampaobncaaaGreatDoorFactFuseKnown
import Derived.Test.YtpibampaobncaaaGreatDoorFkR
import Derived.Test.YtpibampaobncaaaGreatDoorRowL
import Derived.Test.YtpibampaobncaaaGreatDoorLawsF
import Derived.Test.YtpibampaobncaaaGreatDoorFrnL
namespace Go.Proofs.YtpibampaobncaaaGreatDoor
open Go.ChangeShapes Go.WideShapes Go.ChangeAt Go.RowKit Go.Proofs.YtpibampaobncaaaGreatDoor.Code
namespace LawFuseKnown
attribute [local go_sem ↓] Go.wp_at_zero Go.wp_at_succ
theorem rowLaw:RowLaw:=fun n0 n1 w h1 h2 h3=>LawFuseRow.law n0 n1 w h1 h2 h3
theorem runsLaw:RunsLawF:=fun a len cap ps n1 n2 w h1 h2 h3 h4 h5 h6 h7=>LawFuseRuns.law a len cap ps n1 n2 w h1 h2 h3 h4 h5 h6 h7
theorem sameLaw:SameLawF:=fun a len cap ps pa pn pc pay ia im ic inp w h1 h2 h3 h4 h5 h6 h7 h8 h9 h10 h11 h12 h13 h14=>LawFuseSame.law a len cap ps pa pn pc pay ia im ic inp w h1 h2 h3 h4 h5 h6 h7 h8 h9 h10 h11 h12 h13 h14
theorem onceLaw:OnceLawF:=fun a len cap ps n1 n2 w h1 h2 h3 h4 h5 h6 h7 h8=>LawFuseOnce.law a len cap ps n1 n2 w h1 h2 h3 h4 h5 h6 h7 h8
set_option maxRecDepth 100000 in
set_option maxHeartbeats 3200000 in
theorem law(w:World)(hR:Ready w):
    Calls Tryz.prog 3 #[] w (BoolOut true w):=by
 exact fuseKnown18_any rowLaw runsLaw sameLaw onceLaw w hR
set_option maxRecDepth 100000 in
theorem lifted(os:Os)(started:os.Started)(H:Type)(enc:TypeId×Value→H):
    ReturnsInHanded {} Tryz.checked os 3 .any (fun w args=>(Rows.fuseKnownSpec.pre enc Tryz.prog Tryz.f3 Rows.fuseKnownRow.domain false w args∧laidMetH Tryz.prog laid2 w)∧sizedMet enc Tryz.prog Tryz.f3 (OpenSpec.ofChange Rows.fuseKnownSpec) false w args)
     (Rows.fuseKnownSpec.post enc Tryz.prog Tryz.f3 false true false false):=by
 refine returnsInHanded_of_change_and (C:=Tryz.checked) (X:=fun w _=>laidMetH Tryz.prog laid2 w) (fun _ _ _ hh h=>h.of_heap hh) own started (by kernel_rfl) Tryz.func3
  (ChangeSpec.witness_shaped (enc:=enc) (C:=Tryz.checked) (os:=os) (X:=fun w _=>laidMetH Tryz.prog laid2 w) false (World.doorLaid Tryz.prog 93 os) #[] 8 rfl (World.shaped_of_RefB (by kernel_rfl) (by kernel_rfl)) (by kernel_rfl) (by kernel_rfl) (by kernel_rfl) (door_met2 os _)) ?_
 intro W base args ds gs before hval0 hW hcnd hsz0 hL _;have hval:∀(j:Nat) t v,Tryz.f3.params[j]? =some t→args[j]? =some v→Value.okWide Tryz.prog W .any base t v:=hval0;have hsz:(DataW.weightsEach Tryz.prog (Tryz.f3.params.toList++Rows.fuseKnownSpec.plain.varTypes Tryz.prog) (ds++gs)).all (·≤reachBytes)=true:=hsz0;have hW':=hW;obtain⟨p,q,hA0,hV,rfl,hfz,hnd⟩:=hW;have hA:DataW.TrodAll enc Tryz.prog W 0 (fun _=>true) true Tryz.f3.params.toList args.toList ds p:=hA0;rw[Tryz.params3]at hA hval hsz;have hA1:=hA;obtain⟨hargs,rfl,rfl⟩:=trodAll_nil hA
 obtain rfl:args= #[]:=by cases args;simp_all
 obtain⟨rfl,rfl⟩:=trodVars_none hV;have lt0:=trodAll_lt _ _ _ _ hA1;clear hA0 hval0 hsz0
 refine(law  W  (ready_laid hL)).mono fun e W' ⟨he,bel⟩=> ?_
 subst he;exact⟨_,rfl,_,_,_,[],_,[],hW',trodAll_mk1 (shut_bool Tryz.underlying4 _),below_trodAll laidOut bel _ _ _ _ (by kernel_rfl) hA1 lt0,rfl,bel.frame _,fun h=>by cases h⟩
theorem said:Rows.FuseKnownSaid:=
 OpenClaim.holds_of_wide 3 Tryz.f3 rfl rfl rfl rfl rfl rfl rfl ⟨rfl,rfl,rfl,rfl,rfl⟩ rfl rfl rfl rfl rfl found Tryz.func3 joined instanced wrapped
  (fun os started H enc _=>lifted os started H enc)
theorem plain(f:FuncId)(fn:Func)(hf:Tryz.pinned.checked.prog.funcNamed "busbar/busbarlaw18.FuseKnown" =some f)(hfn:Tryz.pinned.checked.prog.funcs[f]? =some fn):
    true=Tryz.pinned.checked.prog.looks []∧∀(j:Nat) t,fn.params[j]? =some t→Tryz.pinned.checked.prog.wantsStandIn t=false:=by
 obtain rfl:f=3:=Option.some.inj (found.symm.trans hf) |>.symm;obtain rfl:fn=Tryz.f3:=(Option.some.inj (Tryz.func3.symm.trans hfn)).symm;refine⟨by kernel_rfl,fun j t ht=> ?_⟩;rw[Tryz.params3]at ht
 have hm:t∈([]:List TypeId):=by simpa using Array.mem_of_getElem? ht
 have hall:(([]:List TypeId).all fun u=> !Tryz.prog.wantsStandIn u)=true:=by kernel_rfl
 exact(show Tryz.prog.wantsStandIn t=false by simpa using List.all_eq_true.1 hall t hm)
theorem card:Rows.FuseKnownCardSaid:=
 Claim7.holds_tied_plain_at .later [] _ _ _ _ said (fun _ h=>by cases h) (by kernel_rfl) (fun _ h=>by cases h) fuseKnown_row_tie rfl ⟨rfl,rfl⟩ (by kernel_rfl) rfl plain (by kernel_rfl)
#print axioms card
end LawFuseKnown
end Go.Proofs.YtpibampaobncaaaGreatDoor
