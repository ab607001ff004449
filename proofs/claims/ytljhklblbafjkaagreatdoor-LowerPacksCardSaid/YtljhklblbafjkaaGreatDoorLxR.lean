/- Package law15: a value for each signal of a message. -/
import Derived.Test.YtljhklblbafjkaaGreatDoorLwE
import Derived.Test.YtljhklblbafjkaaGreatDoorVmP
import Derived.Test.YtljhklblbafjkaaGreatDoorVmQ
open Go.Lib renaming hid→hd'
namespace Go.Proofs.YtljhklblbafjkaaGreatDoor
open Go.RowKit
namespace Code
attribute [local go_sem ↓] Go.wp_at_zero Go.wp_at_succ
theorem infoSl:(Tryz.prog.info? 49).map (fun i=>(i.zero,i.size,i.bytes))=some (some (.int .u64 0),1,8):=by kernel_rfl
def slotsV(vs:List Nat)(k:Nat):List Value:=(List.range k).map fun i=>u64V (vs.getD i 0)
theorem slotsV_succ(vs:List Nat)(k:Nat):slotsV vs (k+1)=slotsV vs k++[u64V (vs.getD k 0)]:=by
 unfold slotsV;rw[List.range_succ,List.map_append];rfl
def SlotsOut(n:Nat)(vs:List Value)(w:World)(e:Ending)(w':World):Prop:=∃ao cap,e= .returned (.slice ao n cap)∧One.OwnV 49 w' w.heap.size ao n cap vs∧Below w.heap.size w w'
set_option maxRecDepth 100000 in
set_option maxHeartbeats 6400000 in
theorem slots_any(m:B.Msg)(sa va:Option Addr)(n cap vn vc:Nat)(vs:List Nat)(w:World)(hn64:n≤64)(hv:ListAt w va vn (vs.map u64V))(hvn:vn≤9223372036854775807):
    Calls Tryz.prog 10 #[.agg (msgC m (.slice sa n cap)),.slice va vn vc] w (SlotsOut n (slotsV vs n) w):=by
 have hrow:=RC.new (msgC m (.slice sa n cap)) 27 w (n:=8) rfl rfl;have hbel:Below w.heap.size w (w.alloc (.cells (msgC m (.slice sa n cap)) 27)):=(Below.refl _ _).alloc (Nat.le_refl _) _;obtain⟨w1,hw1⟩:∃w1,w.alloc (.cells (msgC m (.slice sa n cap)) 27)=w1:=⟨_,rfl⟩;rw[hw1]at hrow hbel;have HV:=hd' hv;have HVL:=hd' hv.len;have HB:=hd' hbel;have HROW:=hd' hrow;clear hv hrow hbel;go_enter Tryz.func10,Tryz.ntmps10
 go_upto_region 1 with fail
 try rw[hw1]
 clear hw1;go_wp2_with fail
 go_loopw [5,6] (fun l i wr=>∃(k c:Nat) (ao:Option Addr),k≤n∧i= .int .i64 (k:Int)∧l= .slice ao k c∧Below w.heap.size w wr∧Hid (RC wr w.heap.size 27 8 (msgC m (.slice sa n cap))∧One.OwnV 49 wr (w.heap.size+1) ao k c (slotsV vs k))) (fun _ i _=>n-(intOf i).toNat)
 case atStart=>exact⟨0,0,none,by omega,rfl,rfl,HB.out,hd' ⟨HROW.out,One.OwnV.nil _ _ _⟩⟩
 case round=>
  obtain⟨k,c,ao,hk,rfl,rfl,hbr,HOW⟩:=hrel;have HBR:=hd' hbr;have k7:wr.cell? ⟨w.heap.size,7,none⟩=some (.slice sa n cap):=HOW.out.1.cell (j:=7) rfl;clear HB hbr HROW
  by_cases hlt:k<n
  ·have e1:((k:Int)<n)=True:=by simp;omega
   have q0:(0:Int)≤(k:Int):=by omega
   have hz:w.heap.size+1≤wr.heap.size:=HOW.out.1.blk;have HX:=hd' (slotsV_succ vs k);obtain⟨x,hx⟩:∃x,vs.getD k 0=x:=⟨_,rfl⟩;rw[hx]at HX;have HXX:=hd' hx;clear hx
   by_cases hkv:k<vn
   case' pos=>
    have q1:(k:Int)<vn:=by omega
    have e2:((k:Int)<vn)=True:=by simp;omega
    have hvk:(vs.map u64V)[k]? =some (u64V x):=by
     have h1:k<vs.length:=by have:=HVL.out;rw[List.length_map]at this;omega
     rw[List.getElem?_map,List.getElem?_eq_getElem h1,←HXX.out];simp[List.getD,List.getElem?_eq_getElem h1]
    obtain⟨b1,o1,rfl,hlt1,hc1⟩:=(HV.out.below HBR.out (Nat.le_refl _)).at_ k _ hvk;unfold u64V at hc1;clear hvk hlt1
   case' neg=>
    have hx0:x=0:=by
     have h1:¬k<vs.length:=by have:=HVL.out;rw[List.length_map]at this;omega
     rw[←HXX.out];simp[List.getD,List.getElem?_eq_none (Nat.le_of_not_lt h1)]
    subst hx0
    have e2:((k:Int)<vn)=False:=by simp;omega
   all_goals
    go_wp2_with (at_builtin;refine One.app_one Tryz.underlying29 infoSl (by rfl) rfl _ _ rfl (w.heap.size+1) rfl HOW.out.2 (by rfl) rfl (by omega) (by omega) hz ?_;intro ao5 cap5 w5 hown5 hkeep5 hwh5 hb5);go_roundw
    case rel=>
     have hbb:Below w.heap.size w w5:=HBR.out.trans (hb5.mono (Nat.le_succ _));refine⟨k+1,cap5,ao5,by omega,by go_num,rfl,hbb,hd' ⟨RC.of HOW.out.1 (hb5.block _ (Nat.lt_succ_self _)), ?_⟩⟩;rw[HX.out];exact hown5
    case measure=>simp[intOf];omega
  ·obtain rfl:n=k:=by omega
   have e1:((n:Int)<n)=False:=by simp
   go_wp2_with fail;go_ret;exact⟨ao,c,rfl,HOW.out.2.weaken (Nat.le_succ _),HBR.out⟩
end Code
end Go.Proofs.YtljhklblbafjkaaGreatDoor
namespace Go.Proofs.YtljhklblbafjkaaGreatDoor
open Go.RowKit
namespace Code
attribute [local go_sem ↓] Go.wp_at_zero Go.wp_at_succ
theorem infoSz:(Tryz.prog.info? 5).map (fun i=>(i.zero,i.size,i.bytes))=some (some (.int .u8 0),1,1):=by kernel_rfl
def sizedV(vs:List Nat)(k:Nat):List Value:=(List.range k).map fun i=>u8V (vs.getD i 0)
theorem sizedV_succ(vs:List Nat)(k:Nat):sizedV vs (k+1)=sizedV vs k++[u8V (vs.getD k 0)]:=by
 unfold sizedV;rw[List.range_succ,List.map_append];rfl
def SizedOut(n:Nat)(vs:List Value)(w:World)(e:Ending)(w':World):Prop:=∃ao cap,e= .returned (.slice ao n cap)∧One.OwnV 5 w' w.heap.size ao n cap vs∧Below w.heap.size w w'
set_option maxRecDepth 100000 in
set_option maxHeartbeats 6400000 in
theorem sized_any(m:B.Msg)(tv:Value)(va:Option Addr)(n vn vc:Nat)(vs:List Nat)(w:World)(hn64:n≤64)(hsize:m.size=(n:Int))(hv:ListAt w va vn (vs.map u8V))(hvn:vn≤9223372036854775807):
    Calls Tryz.prog 8 #[.agg (msgC m tv),.slice va vn vc] w (SizedOut n (sizedV vs n) w):=by
 have hrow:=RC.new (msgC m tv) 27 w (n:=8) rfl rfl;have hbel:Below w.heap.size w (w.alloc (.cells (msgC m tv) 27)):=(Below.refl _ _).alloc (Nat.le_refl _) _;obtain⟨w1,hw1⟩:∃w1,w.alloc (.cells (msgC m tv) 27)=w1:=⟨_,rfl⟩;rw[hw1]at hrow hbel;have HV:=hd' hv;have HSI:=hd' hsize;have HVL:=hd' hv.len;have HB:=hd' hbel;have HROW:=hd' hrow;clear hv hrow hbel hsize;go_enter Tryz.func8,Tryz.ntmps8
 go_upto_region 1 with fail
 try rw[hw1]
 clear hw1;go_wp2_with fail
 go_loopw [5,6] (fun l i wr=>∃(k c:Nat) (ao:Option Addr),k≤n∧i= .int .i64 (k:Int)∧l= .slice ao k c∧Below w.heap.size w wr∧Hid (RC wr w.heap.size 27 8 (msgC m tv)∧One.OwnV 5 wr (w.heap.size+1) ao k c (sizedV vs k))) (fun _ i _=>n-(intOf i).toNat)
 case atStart=>exact⟨0,0,none,by omega,rfl,rfl,HB.out,hd' ⟨HROW.out,One.OwnV.nil _ _ _⟩⟩
 case round=>
  obtain⟨k,c,ao,hk,rfl,rfl,hbr,HOW⟩:=hrel;have HBR:=hd' hbr
  have k5:wr.cell? ⟨w.heap.size,5,none⟩=some (.int .i64 (n:Int)):=by rw[←HSI.out];exact HOW.out.1.cell (j:=5) rfl
  clear HB hbr HROW
  by_cases hlt:k<n
  ·have e1:((k:Int)<n)=True:=by simp;omega
   have q0:(0:Int)≤(k:Int):=by omega
   have hz:w.heap.size+1≤wr.heap.size:=HOW.out.1.blk;have HX:=hd' (sizedV_succ vs k);obtain⟨x,hx⟩:∃x,vs.getD k 0=x:=⟨_,rfl⟩;rw[hx]at HX;have HXX:=hd' hx;clear hx
   by_cases hkv:k<vn
   case' pos=>
    have q1:(k:Int)<vn:=by omega
    have e2:((k:Int)<vn)=True:=by simp;omega
    have hvk:(vs.map u8V)[k]? =some (u8V x):=by
     have h1:k<vs.length:=by have:=HVL.out;rw[List.length_map]at this;omega
     rw[List.getElem?_map,List.getElem?_eq_getElem h1,←HXX.out];simp[List.getD,List.getElem?_eq_getElem h1]
    obtain⟨b1,o1,rfl,hlt1,hc1⟩:=(HV.out.below HBR.out (Nat.le_refl _)).at_ k _ hvk;unfold u8V at hc1;clear hvk hlt1
   case' neg=>
    have hx0:x=0:=by
     have h1:¬k<vs.length:=by have:=HVL.out;rw[List.length_map]at this;omega
     rw[←HXX.out];simp[List.getD,List.getElem?_eq_none (Nat.le_of_not_lt h1)]
    subst hx0
    have e2:((k:Int)<vn)=False:=by simp;omega
   all_goals
    go_wp2_with (at_builtin;refine One.app_one Tryz.underlying28 infoSz (by rfl) rfl _ _ rfl (w.heap.size+1) rfl HOW.out.2 (by rfl) rfl (by omega) (by omega) hz ?_;intro ao5 cap5 w5 hown5 hkeep5 hwh5 hb5);go_roundw
    case rel=>
     have hbb:Below w.heap.size w w5:=HBR.out.trans (hb5.mono (Nat.le_succ _));refine⟨k+1,cap5,ao5,by omega,by go_num,rfl,hbb,hd' ⟨RC.of HOW.out.1 (hb5.block _ (Nat.lt_succ_self _)), ?_⟩⟩;rw[HX.out];exact hown5
    case measure=>simp[intOf];omega
  ·obtain rfl:n=k:=by omega
   have e1:((n:Int)<n)=False:=by simp
   go_wp2_with fail;go_ret;exact⟨ao,c,rfl,HOW.out.2.weaken (Nat.le_succ _),HBR.out⟩
end Code
end Go.Proofs.YtljhklblbafjkaaGreatDoor
namespace Go.Proofs.YtljhklblbafjkaaGreatDoor
open Go.RowKit
namespace Code
def RunUni(r:B.Out)(w:World)(e:Ending)(w':World):Prop:=
 ∃a1 c1 a2 c2 a3 c3,e= .returned (.tuple #[.agg #[.bool (fl r),.int .i64 (slotOf r),.slice a1 (payL r).length c1,.slice a2 (outL r).length c2,.slice a3 (hasL r).length c3,.int .i64 (r.steps:Int)],.nilIface])∧
  One.OwnV 5 w' w.heap.size a1 (payL r).length c1 ((payL r).map u8V)∧One.OwnV 49 w' w.heap.size a2 (outL r).length c2 ((outL r).map u64V)∧One.OwnV 4 w' w.heap.size a3 (hasL r).length c3 ((hasL r).map Value.bool)∧Below w.heap.size w w'
theorem run_uni(a pa ia:Option Addr)(len cap pn pc im ic:Nat)(ps:List B.Ins)(pay inp:List Nat)(w:World)(hp:ProgAt w a len ps)(hwf:∀y∈ps,y.Wf)(ht:Tabs w)(hr:len≤9223372036854775807)(hm:B.MayRun ps pn im)
    (hpay:ListAt w pa pn (pay.map u8V)) (hinp:ListAt w ia im (inp.map u64V)) (hby:B.Bytes pay) (hwi:B.Words inp):
    Calls Tryz.prog 9 #[.slice a len cap,.slice pa pn pc,.slice ia im ic] w (RunUni (B.run ps inp 0 (B.start pay im)) w):=by
 refine(run_yes a pa ia len cap pn pc im ic ps pay inp w hp hwf ht hr hm hpay hinp hby hwi).mono ?_;generalize B.run ps inp 0 (B.start pay im)=r;rintro e w' ⟨v,rfl,hv,hb⟩;rcases hv with⟨k,hk,rfl⟩ | ⟨h0,hst,pv,ov,hv,rfl,h1,h2,h3⟩
 ·have hf:r.failed.isSome=true:=by rw[hk];rfl
  refine⟨none,0,none,0,none,0, ?_, ?_, ?_, ?_,hb⟩
  ·unfold fl slotOf payL outL hasL
   simp only[hk];rfl
  ·unfold payL;rw[if_pos hf];exact One.OwnV.nil _ _ _
  ·unfold outL;rw[if_pos hf];exact One.OwnV.nil _ _ _
  ·unfold hasL;rw[if_pos hf];exact One.OwnV.nil _ _ _
 ·have hf:¬r.failed.isSome=true:=by rw[h0];decide
  obtain⟨a1,c1,rfl⟩:=own_form h1;obtain⟨a2,c2,rfl⟩:=own_form h2;obtain⟨a3,c3,rfl⟩:=own_form h3;have e1:payL r=r.st.pay:=if_neg hf;have e2:outL r=r.st.out:=if_neg hf;have e3:hasL r=r.st.has:=if_neg hf;refine⟨a1,c1,a2,c2,a3,c3, ?_, ?_, ?_, ?_,hb⟩
  ·rw[e1,e2,e3]
   unfold fl slotOf;rw[h0];rw[hst.payl,hst.outl,hst.hasl];rfl
  ·rw[e1];exact⟨by simp,by rw[hst.payl];exact h1⟩
  ·rw[e2];exact⟨by simp,by rw[hst.outl];exact h2⟩
  ·rw[e3];exact⟨by simp,by rw[hst.hasl];exact h3⟩
end Code
end Go.Proofs.YtljhklblbafjkaaGreatDoor
