/- busbarlaw18: one list of instructions behind the other. -/
import Derived.Test.YtpibampaobncaaaGreatDoorBaseQ
import Derived.Test.YtpibampaobncaaaGreatDoorMoreQ
import Derived.Test.YtpibampaobncaaaGreatDoorFusZ
import Derived.Test.YtpibampaobncaaaGreatDoorVmP
import Derived.Test.YtpibampaobncaaaGreatDoorVmQ
import Derived.Deep.RegionHeld3
open Go.Lib renaming hid→hd'
open Nat renaming le_refl→lR'
open List renaming setIfInBounds_toArray→sA',set_cons_zero→sZ',set_cons_succ→sS'
namespace Go.Proofs.YtpibampaobncaaaGreatDoor
open Go.RowKit
namespace Code
attribute [local go_sem ↓] Go.wp_at_zero Go.wp_at_succ
theorem take_snocK{α:Type}{l:List α}{k:Nat}{x:α}(h:l[k]? =some x):l.take (k+1)=l.take k++[x]:=by
 obtain⟨hk,e⟩:=List.getElem?_eq_some_iff.1 h;rw[List.take_succ_eq_append_getElem hk,e]
def ListOut(l:List B.Ins)(n:Nat)(w:World)(e:Ending)(w':World):Prop:=∃ao cp,e= .returned (.slice ao n cp)∧OwnP w' w.heap.size ao n cp l∧Below w.heap.size w w'
set_option maxRecDepth 100000 in
set_option maxHeartbeats 3200000 in
theorem both18_any(a b:Option Addr)(la ca lb cb:Nat)(ps qs:List B.Ins)(w:World)(hp:ProgAt w a la ps)(hq:ProgAt w b lb qs)(hl:la+lb≤100000):
    Calls Tryz.prog 8 #[.slice a la ca,.slice b lb cb] w (ListOut (ps++qs) (la+lb) w):=by
 have HP:=hd' hp;have HQ:=hd' hq;clear hp hq;go_enter Tryz.func8,Tryz.ntmps8;go_wp2_with fail
 go_loopw [5,6] (fun v i wr=>∃(k:Nat) (ao:Option Addr) (cp:Nat),k≤la∧i= .int .i64 k∧v= .slice ao k cp∧OwnP wr w.heap.size ao k cp (ps.take k)∧Below w.heap.size w wr)
  (fun _ i _=>la-(intOf i).toNat)
 case atStart=>exact⟨0,none,0,Nat.zero_le _,rfl,rfl,OwnP.nil _ _,Below.refl _ _⟩
 case round=>
  obtain⟨k,ao,cp,hk,rfl,rfl,hown,hb⟩:=hrel;have HO:=hd' hown;have HBr:=hd' hb;have hsz:=hb.size;clear hown hb
  by_cases hlt:k<la
  ·have e0:((k:Int)<(la:Int))=True:=by simp;omega
   have k0:(0:Int)≤(k:Int):=by omega
   have k1:(k:Int)<(la:Int):=by omega
   have k3:IntKind.i64.wrap ((k:Int)+1)=(k:Int)+1:=IntWalk.i64_in _ (by omega);have hx:ps[k]? =some (ps[k]'(by have:=HP.out.len;omega)):=List.getElem?_eq_getElem _;generalize ps[k]'(by have:=HP.out.len;omega)=x at hx;obtain⟨b',off,rfl,hbl,hat⟩:=HP.out.at_ k x hx;obtain⟨h0,h1,h2,h3,h4⟩:=hat.below HBr.out hbl;have HX:=hd' hx;clear hx hat hbl;go_wp2_with (at_builtin;refine app_ins rfl _ _ rfl w.heap.size rfl HO.out rfl (by omega) (by omega) ?_;intro ao' cp' w6 hown6 hb6 hs6);go_roundw
   case rel=>exact⟨k+1,ao',cp',by omega,by go_num,rfl,by rw[take_snocK HX.out];exact hown6,HBr.out.trans hb6⟩
   case measure=>simp[intOf];omega
  ·obtain rfl:k=la:=by omega
   have e0:((k:Int)<(k:Int))=False:=by simp
   have HO1:Hid (OwnP wr w.heap.size ao k cp ps):=by
    have:=HO.out;rw[List.take_of_length_le (by have:=HP.out.len;omega)]at this;exact this
   obtain⟨wo,hwo⟩:∃wo:World,wo=wr:=⟨_,rfl⟩;subst hwo;clear HO hlt;go_wp2_with fail
   go_loopw [5,7] (fun v i wr=>∃(j:Nat) (ao:Option Addr) (cp:Nat),j≤lb∧i= .int .i64 j∧v= .slice ao (k+j:Nat) cp∧OwnP wr w.heap.size ao (k+j) cp (ps++qs.take j)∧Below w.heap.size w wr)
    (fun _ i _=>lb-(intOf i).toNat)
   case atStart=>exact⟨0,ao,cp,Nat.zero_le _,rfl,rfl,by rw[List.take_zero,List.append_nil];exact HO1.out,HBr.out⟩
   case round=>
    obtain⟨j,ao2,cp2,hj,rfl,rfl,hown,hb⟩:=hrel;clear HO1 HBr;have HO:=hd' hown;have HBr:=hd' hb;have hsz2:=hb.size;clear hown hb
    by_cases hlt:j<lb
    ·have e1:((j:Int)<(lb:Int))=True:=by simp;omega
     have k0:(0:Int)≤(j:Int):=by omega
     have k1:(j:Int)<(lb:Int):=by omega
     have k3:IntKind.i64.wrap ((j:Int)+1)=(j:Int)+1:=IntWalk.i64_in _ (by omega);have hx:qs[j]? =some (qs[j]'(by have:=HQ.out.len;omega)):=List.getElem?_eq_getElem _;generalize qs[j]'(by have:=HQ.out.len;omega)=x at hx;obtain⟨b',off,rfl,hbl,hat⟩:=HQ.out.at_ j x hx;obtain⟨h0,h1,h2,h3,h4⟩:=hat.below HBr.out hbl;have HX:=hd' hx;clear hx hat hbl;obtain⟨m,hm⟩:∃m,k+j=m:=⟨_,rfl⟩;rw[hm]at HO⊢;go_wp2_with (at_builtin;refine app_ins rfl _ _ rfl w.heap.size rfl HO.out rfl (by omega) (by omega) ?_;intro ao' cp' w6 hown6 hb6 hs6);go_roundw
     case rel=>exact⟨j+1,ao',cp',by omega,by go_num,by rw[←Nat.add_assoc,hm],by rw[take_snocK HX.out,←Nat.add_assoc,hm,←List.append_assoc];exact hown6,HBr.out.trans hb6⟩
     case measure=>simp[intOf];omega
    ·obtain rfl:j=lb:=by omega
     have e1:((j:Int)<(j:Int))=False:=by simp
     have HO1:Hid (OwnP wr w.heap.size ao2 (k+j) cp2 (ps++qs)):=by
      have:=HO.out;rw[List.take_of_length_le (by have:=HQ.out.len;omega)]at this;exact this
     clear HO;go_wp2_with fail;go_ret;exact⟨ao2,cp2,rfl,HO1.out,HBr.out⟩
end Code
end Go.Proofs.YtpibampaobncaaaGreatDoor
namespace Go.Proofs.YtpibampaobncaaaGreatDoor
open Go.RowKit
namespace Code
attribute [local go_sem ↓] Go.wp_at_zero Go.wp_at_succ
def RowLaw:Prop:=∀(n0 n1:Int) (w:World),Tabs w→B.In64 n0→B.In64 n1→Calls Tryz.prog 12 #[.int .i64 n0,.int .i64 n1] w (BoolOut true w)
def RunsLawF:Prop:=∀(a0:Option Addr) (len0 cap0:Nat) (ps0:List B.Ins) (n1:Int) (n2:Int) (w:World),ProgAt w a0 len0 ps0→(∀y∈ps0,y.Wf)→len0*40≤140737488351232→(a0=none→cap0=0)→Ready w→B.In64 n1→B.In64 n2→Calls Tryz.prog 14 #[.slice a0 len0 cap0,.int .i64 n1,.int .i64 n2] w (BoolOut true w)
set_option maxRecDepth 100000 in
set_option maxHeartbeats 3200000 in
theorem knownRows18_any(hD:RowLaw)(w:World)(hR:Tabs w):Calls Tryz.prog 5 #[] w (BoolOut true w):=by
 have HR:=hd' hR;have HD:=hd' hD;clear hR hD;go_enter Tryz.func5,Tryz.ntmps5;go_wp2_with fail
 go_loopw [1] (fun i wr=>∃a:Nat,a≤66∧i= .int .i64 a∧Below w.heap.size w wr) (fun i _=>66-(intOf i).toNat)
 case atStart=>exact⟨0,by omega,rfl,Below.refl _ _⟩
 case round=>
  obtain⟨a,ha,rfl,hba⟩:=hrel;have HBa:=hd' hba;clear hba
  by_cases hlta:a<64
  ·have ia0:((a:Int)<64)=True:=by simp;omega
   have ia1:IntKind.i64.wrap (64-(a:Int))=64-(a:Int):=IntWalk.i64_in _ (by omega);have ia2:IntKind.i64.wrap ((a:Int)+3)=(a:Int)+3:=IntWalk.i64_in _ (by omega);go_wp2_with fail
   go_loopw [2] (fun i wr=>∃b:Nat,b≤70∧i= .int .i64 b∧Below w.heap.size w wr) (fun i _=>70-(intOf i).toNat)
   case atStart=>exact⟨0,by omega,rfl,HBa.out⟩
   case round=>
    obtain⟨b,hb,rfl,hbb⟩:=hrel;have HBb:=hd' hbb;clear hbb HBa
    by_cases hltb:(b:Int)<64-(a:Int)
    ·have ib0:((b:Int)<64-(a:Int))=True:=by simp;omega
     have ib2:IntKind.i64.wrap ((b:Int)+5)=(b:Int)+5:=IntWalk.i64_in _ (by omega);go_wp2_with fail;refine(HD.out a b _ (HR.out.below HBb.out (lR' _)) ⟨by omega,by omega⟩ ⟨by omega,by omega⟩).mono ?_;rintro e w1 ⟨rfl,hb1⟩;have HB1:=hd' (HBb.out.trans (hb1.mono HBb.out.size));clear hb1;go_wp2_with fail;go_roundw
     case rel=>exact⟨b+5,by omega,by go_num,HB1.out⟩
     case measure=>simp[intOf];omega
    ·have ib0:((b:Int)<64-(a:Int))=False:=by simp;omega
     go_wp2_with fail;go_roundw
     case rel=>exact⟨a+3,by omega,by go_num,HBb.out⟩
     case measure=>simp[intOf];omega
  ·have ia0:((a:Int)<64)=False:=by simp;omega
   go_wp2_with fail;refine(HD.out 0 63 _ (HR.out.below HBa.out (lR' _)) (by decide) (by decide)).mono ?_;rintro e w1 ⟨rfl,hb1⟩;have HB1:=hd' (HBa.out.trans (hb1.mono HBa.out.size));clear hb1;go_wp2_with fail;refine(HD.out 63 0 _ (HR.out.below HB1.out (lR' _)) (by decide) (by decide)).mono ?_;rintro e w2 ⟨rfl,hb2⟩;have HB2:=hd' (HB1.out.trans (hb2.mono HB1.out.size));clear hb2;go_wp2_with fail;refine(HD.out 1 62 _ (HR.out.below HB2.out (lR' _)) (by decide) (by decide)).mono ?_;rintro e w3 ⟨rfl,hb3⟩;have HB3:=hd' (HB2.out.trans (hb3.mono HB2.out.size));clear hb3;go_wp2_with fail;go_ret;exact⟨rfl,HB3.out⟩
def szF:List Int:=[-1,0,1,8,9]
theorem szF_in:∀y∈szF,B.In64 y:=by unfold szF;decide
def wfB(x:B.Ins):Bool:=decide (B.In64 x.op)&&decide (B.In64 x.a)&&decide (B.In64 x.b)&&decide (B.In64 x.n)&&decide (B.InU64 x.imm)
theorem wf_B{ps:List B.Ins}(h:ps.all wfB=true):∀y∈ps,y.Wf:=by
 intro y hy;have:=List.all_eq_true.1 h y hy;simp only[wfB,Bool.and_eq_true,decide_eq_true_eq]at this;exact⟨this.1.1.1.1,this.1.1.1.2,this.1.1.2,this.1.2,this.2⟩
theorem progAt_newB(ps:List B.Ins)(C:Array Value)(n:Nat)(t:TypeId)(w:World){X:Nat}(hX:X=w.heap.size)(hC:C.toList=cellsP ps)(hn:n=ps.length):ProgAt (w.alloc (.cells C t)) (some ⟨X,0,none⟩) n ps:=by
 subst hX;exact progAt_new ps C n t w hC hn
set_option maxRecDepth 100000 in
set_option maxHeartbeats 12800000 in
theorem knownWrong18_any(hD:RunsLawF)(w:World)(hR:Ready w):Calls Tryz.prog 7 #[] w (BoolOut true w):=by
 have HR:=hd' hR;have HD:=hd' hD;clear hR hD;go_enter Tryz.func7,Tryz.ntmps7;go_wp2_with fail;refine(bit00_any _).mono ?_;rintro e w1 ⟨ao,cp,rfl,hown,hb1⟩;have HO1:=hd' hown.progAt;have HN1:=hd' (OwnP.nilCap hown);have HB1:=hd' hb1;clear hown hb1;obtain⟨w0,hw0⟩:∃w0,w1.alloc (.cells #[.int .i64 (-1),.int .i64 0,.int .i64 1,.int .i64 8,.int .i64 9] 3)=w0:=⟨_,rfl⟩;obtain⟨Z,hZ⟩:∃Z,w1.heap.size=Z:=⟨_,rfl⟩;have HB0:Hid (Below w.heap.size w w0):=hd' (by rw[←hw0];exact HB1.out.alloc HB1.out.size _);have HP0:Hid (ProgAt w0 ao 2 [⟨2,2,1,0,0⟩,⟨13,2,0,1,1⟩]):=hd' (by rw[←hw0];exact HO1.out.below ((Below.refl _ _).alloc (lR' _) _) (lR' _));have HX0:Hid (ListAt w0 (some ⟨Z,0,none⟩) 5 (szF.map (Value.int .i64))):=hd' (by rw[←hw0];exact listAt_new _ _ 5 _ _ w1 rfl rfl hZ.symm)
 have hs0:Z<w0.heap.size:=by rw[←hw0,←hZ];simp
 have HW0:=hd' hw0;have HZ:=hd' hZ;clear hw0 hZ HO1 HB1;go_wp2_with fail
 try rw[HW0.out]
 try rw[HZ.out]
 clear HW0 HZ
 go_loopw [3] (fun i wr=>∃a:Nat,a≤5∧i= .int .i64 a∧Below w0.heap.size w0 wr) (fun i _=>5-(intOf i).toNat)
 case atStart=>exact⟨0,by omega,rfl,Below.refl _ _⟩
 case round=>
  obtain⟨a,ha,rfl,hba⟩:=hrel;have HBa:=hd' hba;clear hba
  by_cases hlta:a<5
  ·have ia0:(0:Int)≤(a:Int):=by omega
   have ia1:(a:Int)<5:=by omega
   have hsa:szF[a]? =some (szF[a]'(by simpa[szF]using hlta)):=List.getElem?_eq_getElem _;generalize szF[a]'(by simpa[szF]using hlta)=s at hsa;have HSI:=hd' (szF_in s (List.mem_of_getElem? hsa));have HC:Hid (w0.cell? ⟨Z,a,none⟩=some (.int .i64 s)):=hd' (by have:=HX0.out.news a (.int .i64 s) (by rw[List.getElem?_map,hsa];rfl);cases a<;>simpa[Addr.add]using this);clear hsa;go_wp2_with fail;refine wp_region_held_drew (S:=Below w0.heap.size w0) (by kernel_rfl) HBa.out.drew (fun hS1=> ?_);refine take_slot (i:=0) (d:=12) (v:=.slice ao 2 cp) rfl rfl (by kernel_rfl) (by kernel_rfl) (by kernel_rfl) (fun _ _ _ h=>h) (Or.inl ⟨by rfl,fun w' _=>by go_simp⟩) hS1 ?_;simp only[Act.put,sA',sZ',sS'];refine take_slot (i:=1) (d:=13) (v:=.slice (some ⟨Z,0,none⟩) 5 5) rfl rfl (by kernel_rfl) (by kernel_rfl) (by kernel_rfl) (fun _ _ _ h=>h) (Or.inl ⟨by rfl,fun w' _=>by go_simp⟩) hS1 ?_
   simp only[Act.put,sA',sZ',sS'];refine take_slot (i:=2) (d:=14) (v:=.int .i64 (a:Int)) rfl rfl (by kernel_rfl) (by kernel_rfl) (by kernel_rfl) (fun _ _ _ h=>h) (Or.inl ⟨by rfl,fun w' _=>by go_simp⟩) hS1 ?_;simp only[Act.put,sA',sZ',sS'];refine take_slot (i:=3) (d:=15) (v:=.pointer (some ⟨Z,a,none⟩)) rfl rfl (by kernel_rfl) (by kernel_rfl) (by kernel_rfl) (fun _ _ _ h=>h) (Or.inl ⟨by rfl,fun w' _=>by go_simp⟩) hS1 ?_;simp only[Act.put,sA',sZ',sS'];refine take_slot (i:=4) (d:=16) (v:=.int .i64 s) rfl rfl (by kernel_rfl) (by kernel_rfl) (by kernel_rfl) (fun _ _ _ h=>h) (Or.inl ⟨by rfl,fun w' h=>by have e:=(h.cell (p:=⟨Z,a,none⟩) (by show Z<_;omega)).trans HC.out;go_simp⟩) hS1 ?_;simp only[Act.put,sA',sZ',sS'];refine wpAnyH_ready (rs:=[5]) (by kernel_rfl) (by simp) ?_;refine AllReadyH.cons rfl (fun K hK=> ?_) AllReadyH.nil;go_simp
   refine(HD.out ao 2 cp _ s 1 _ (HP0.out.below hS1 (lR' _)) (wf_B (by decide)) (by omega) HN1.out (HR.out.below (HB0.out.trans (hS1.mono HB0.out.size)) (lR' _)) HSI.out (by decide)).mono ?_;rintro e w2 ⟨rfl,hbw1⟩;refine hK.out _ _ (hS1.trans (hbw1.mono hS1.size)) (fun hS2=> ?_);clear hK K;refine take_slot (i:=6) (d:=18) (v:=.bool false) rfl rfl (by kernel_rfl) (by kernel_rfl) (by kernel_rfl) (fun _ _ _ h=>h) (Or.inl ⟨by rfl,fun w' _=>by go_simp⟩) hS2 ?_;simp only[Act.put,sA',sZ',sS'];refine take_slot (i:=7) (d:=19) (v:=.bool false) rfl rfl (by kernel_rfl) (by kernel_rfl) (by kernel_rfl) (fun _ _ _ h=>h) (Or.inl ⟨by rfl,fun w' _=>by go_simp⟩) hS2 ?_;simp only[Act.put,sA',sZ',sS'];refine take_slot (i:=8) (d:=20) (v:=.slice (some ⟨Z,0,none⟩) 5 5) rfl rfl (by kernel_rfl) (by kernel_rfl) (by kernel_rfl) (fun _ _ _ h=>h) (Or.inl ⟨by rfl,fun w' _=>by go_simp⟩) hS2 ?_
   simp only[Act.put,sA',sZ',sS'];refine take_slot (i:=9) (d:=21) (v:=.int .i64 (a:Int)) rfl rfl (by kernel_rfl) (by kernel_rfl) (by kernel_rfl) (fun _ _ _ h=>h) (Or.inl ⟨by rfl,fun w' _=>by go_simp⟩) hS2 ?_;simp only[Act.put,sA',sZ',sS'];refine take_slot (i:=10) (d:=22) (v:=.pointer (some ⟨Z,a,none⟩)) rfl rfl (by kernel_rfl) (by kernel_rfl) (by kernel_rfl) (fun _ _ _ h=>h) (Or.inl ⟨by rfl,fun w' _=>by go_simp⟩) hS2 ?_;simp only[Act.put,sA',sZ',sS'];refine take_slot (i:=11) (d:=23) (v:=.int .i64 s) rfl rfl (by kernel_rfl) (by kernel_rfl) (by kernel_rfl) (fun _ _ _ h=>h) (Or.inl ⟨by rfl,fun w' h=>by have e:=(h.cell (p:=⟨Z,a,none⟩) (by show Z<_;omega)).trans HC.out;go_simp⟩) hS2 ?_;simp only[Act.put,sA',sZ',sS']
   refine take_slot (i:=12) (d:=24) (v:=.slice (some ⟨Z,0,none⟩) 5 5) rfl rfl (by kernel_rfl) (by kernel_rfl) (by kernel_rfl) (fun _ _ _ h=>h) (Or.inl ⟨by rfl,fun w' _=>by go_simp⟩) hS2 ?_;simp only[Act.put,sA',sZ',sS'];refine take_slot (i:=13) (d:=25) (v:=.int .i64 (a:Int)) rfl rfl (by kernel_rfl) (by kernel_rfl) (by kernel_rfl) (fun _ _ _ h=>h) (Or.inl ⟨by rfl,fun w' _=>by go_simp⟩) hS2 ?_;simp only[Act.put,sA',sZ',sS'];refine take_slot (i:=14) (d:=26) (v:=.pointer (some ⟨Z,a,none⟩)) rfl rfl (by kernel_rfl) (by kernel_rfl) (by kernel_rfl) (fun _ _ _ h=>h) (Or.inl ⟨by rfl,fun w' _=>by go_simp⟩) hS2 ?_;simp only[Act.put,sA',sZ',sS'];refine take_slot (i:=15) (d:=27) (v:=.int .i64 s) rfl rfl (by kernel_rfl) (by kernel_rfl) (by kernel_rfl) (fun _ _ _ h=>h) (Or.inl ⟨by rfl,fun w' h=>by have e:=(h.cell (p:=⟨Z,a,none⟩) (by show Z<_;omega)).trans HC.out;go_simp⟩) hS2 ?_
   simp only[Act.put,sA',sZ',sS'];refine wpAnyH_ready (rs:=[16]) (by kernel_rfl) (by simp) ?_;refine AllReadyH.cons rfl (fun K hK=> ?_) AllReadyH.nil;go_simp;refine(HD.out none 0 0 [] s s _ (progAt_nil _) (fun y hy=>by cases hy) (by omega) (fun h=>by first | rfl | cases h) (HR.out.below (HB0.out.trans (hS2.mono HB0.out.size)) (lR' _)) HSI.out HSI.out).mono ?_;rintro e w3 ⟨rfl,hbw2⟩;refine hK.out _ _ (hS2.trans (hbw2.mono hS2.size)) (fun hS3=> ?_);clear hK K;refine take_slot (i:=17) (d:=29) (v:=.bool false) rfl rfl (by kernel_rfl) (by kernel_rfl) (by kernel_rfl) (fun _ _ _ h=>h) (Or.inl ⟨by rfl,fun w' _=>by go_simp⟩) hS3 ?_;simp only[Act.put,sA',sZ',sS'];refine take_slot (i:=18) (d:=30) (v:=.bool false) rfl rfl (by kernel_rfl) (by kernel_rfl) (by kernel_rfl) (fun _ _ _ h=>h) (Or.inl ⟨by rfl,fun w' _=>by go_simp⟩) hS3 ?_;simp only[Act.put,sA',sZ',sS']
   refine take_slot (i:=19) (d:=31) (v:=.bool false) rfl rfl (by kernel_rfl) (by kernel_rfl) (by kernel_rfl) (fun _ _ _ h=>h) (Or.inl ⟨by rfl,fun w' _=>by go_simp⟩) hS3 ?_;simp only[Act.put,sA',sZ',sS'];refine take_slot (i:=20) (d:=32) (v:=.agg #[.int .i64 77,.int .i64 0,.int .i64 0,.int .i64 0,.int .u64 0]) rfl rfl (by kernel_rfl) (by kernel_rfl) (by kernel_rfl) (fun _ _ _ h=>h) (Or.inl ⟨by rfl,fun w' _=>by go_simp⟩) hS3 ?_;simp only[Act.put,sA',sZ',sS'];refine wpAnyH_ready (rs:=[21]) (by kernel_rfl) (by simp) ?_;refine AllReadyH.cons rfl (fun K hK=> ?_) AllReadyH.nil;go_simp;refine hK.out _ _ (hS3.alloc hS3.size _) (fun hS4=> ?_);clear hK K;refine wpAnyH_ready (rs:=[22]) (by kernel_rfl) (by simp) ?_;refine AllReadyH.cons rfl (fun K hK=> ?_) AllReadyH.nil;go_simp
   refine(HD.out (some ⟨w3.heap.size,0,none⟩) 1 1 [⟨77,0,0,0,0⟩] 2 2 _ (progAt_newB [⟨77,0,0,0,0⟩] _ 1 _ w3 rfl rfl rfl) (wf_B (by decide)) (by omega) (fun h=>by first | rfl | cases h) (HR.out.below (HB0.out.trans (hS4.mono HB0.out.size)) (lR' _)) (by decide) (by decide)).mono ?_;rintro e w4 ⟨rfl,hbw3⟩;refine hK.out _ _ (hS4.trans (hbw3.mono hS4.size)) (fun hS5=> ?_);clear hK K;refine take_slot (i:=23) (d:=35) (v:=.bool false) rfl rfl (by kernel_rfl) (by kernel_rfl) (by kernel_rfl) (fun _ _ _ h=>h) (Or.inl ⟨by rfl,fun w' _=>by go_simp⟩) hS5 ?_;simp only[Act.put,sA',sZ',sS'];refine take_slot (i:=24) (d:=36) (v:=.bool false) rfl rfl (by kernel_rfl) (by kernel_rfl) (by kernel_rfl) (fun _ _ _ h=>h) (Or.inl ⟨by rfl,fun w' _=>by go_simp⟩) hS5 ?_;simp only[Act.put,sA',sZ',sS'];refine wpAnyH_done (by kernel_rfl) ?_ _;have HB5:=hd' hS5;clear hS1 hS2 hS3 hS4 hS5 hbw1 hbw2 hbw3;go_wp2_with fail
   go_roundw
   case rel=>exact⟨a+1,by omega,by go_num,HB5.out⟩
   case measure=>simp[intOf];omega
  ·obtain rfl:a=5:=by omega
   go_wp2_with fail;go_ret;exact⟨rfl,HB0.out.trans (HBa.out.mono HB0.out.size)⟩
end Code
end Go.Proofs.YtpibampaobncaaaGreatDoor
namespace Go.Proofs.YtpibampaobncaaaGreatDoor
open Go.RowKit
namespace Code
attribute [local go_sem ↓] Go.wp_at_zero Go.wp_at_succ
structure Spot where
 a:Option Addr
 n:Nat
 c:Nat
 l:List B.Ins
structure SpotAt(w:World)(x:Spot):Prop where
 at_:ProgAt w x.a x.n x.l
 nil:x.a=none→x.c=0
 cap:x.n≤x.c
def Held(w:World)(L:List Spot):Prop:=∀x∈L,SpotAt w x
theorem SpotAt.below{w w':World}{x:Spot}(h:SpotAt w x)(hb:Below w.heap.size w w'):SpotAt w' x:=⟨h.at_.below hb (lR' _),h.nil,h.cap⟩
theorem Held.below{w w':World}{L:List Spot}(h:Held w L)(hb:Below w.heap.size w w'):Held w' L:=fun x hx=>(h x hx).below hb
theorem Held.cons{w:World}{L:List Spot}{x:Spot}(h:Held w L)(hp:SpotAt w x):Held w (x::L):=by
 intro y hy;rcases List.mem_cons.1 hy with rfl | hy
 ·exact hp
 ·exact h y hy
theorem Held.new{w u:World}{L:List Spot}{C:Array Value}{X n:Nat}{l:List B.Ins}(h:Held w L)(hu:w.alloc (.cells C 25)=u)(hX:w.heap.size=X)(hC:C.toList=cellsP l)(hn:n=l.length):Below w.heap.size w u∧Held u (⟨some ⟨X,0,none⟩,n,n,l⟩::L)∧u.heap.size=X+1:=by
 subst hu hX;have hb:Below w.heap.size w (w.alloc (.cells C 25)):=(Below.refl _ _).alloc (lR' _) _;exact⟨hb,(h.below hb).cons ⟨progAt_newB l C n _ w rfl hC hn,(fun h=>nomatch h),lR' _⟩,by simp⟩
def HeldOut(L:List Spot)(n:Nat)(l:List B.Ins)(w:World)(e:Ending)(w':World):Prop:=
 ∃ao cp,e= .returned (.slice ao n cp)∧Below w.heap.size w w'∧Held w' (⟨ao,n,cp,l⟩::L)
theorem Held.out{w w':World}{L:List Spot}{ao:Option Addr}{n cp:Nat}{l:List B.Ins}(h:Held w L)(ho:OwnP w' w.heap.size ao n cp l)(hb:Below w.heap.size w w'):HeldOut L n l w (.returned (.slice ao n cp)) w':=
 ⟨ao,cp,rfl,hb,(h.below hb).cons ⟨ho.progAt,OwnP.nilCap ho,OwnP.capLe2 ho⟩⟩
theorem both_held{L:List Spot}{w:World}(h:Held w L){a b:Option Addr}{la ca lb cb n:Nat}{ps qs l:List B.Ins}(hp:⟨a,la,ca,ps⟩∈L)(hq:⟨b,lb,cb,qs⟩∈L)(hn:la+lb=n)(hn1:n≤100000)(hl:ps++qs=l):
    Calls Tryz.prog 8 #[.slice a la ca,.slice b lb cb] w (HeldOut L n l w):=by
 subst hn hl;refine(both18_any a b la ca lb cb ps qs w (h _ hp).at_ (h _ hq).at_ hn1).mono ?_;rintro e w' ⟨ao,cp,rfl,ho,hb⟩;exact h.out ho hb
theorem bit_held{L:List Spot}{w:World}(h:Held w L)(t v d:Int)(q:Nat)(h0: -63≤d)(h1:d≤63)(hq:q≤63){n:Nat}{l:List B.Ins}(hl:bitT t v d q=l)(hn:n=l.length):
    Calls Tryz.prog 9 #[.int .i64 t,.int .i64 v,.int .i64 d,.int .i64 q] w (HeldOut L n l w):=by
 subst hl hn;refine(bitT_any t v d q h0 h1 hq w).mono ?_;rintro e w' ⟨ao,cp,rfl,ho,hb⟩;exact h.out ho hb
theorem back_held{L:List Spot}{w:World}(h:Held w L)(t v d:Int)(q:Nat)(h0: -63≤d)(h1:d≤63)(hq:q≤63){n:Nat}{l:List B.Ins}(hl:backT t v d q=l)(hn:n=l.length):
    Calls Tryz.prog 13 #[.int .i64 t,.int .i64 v,.int .i64 d,.int .i64 q] w (HeldOut L n l w):=by
 subst hl hn;refine(backT_any t v d q h0 h1 hq w).mono ?_;rintro e w' ⟨ao,cp,rfl,ho,hb⟩;exact h.out ho hb
set_option maxHeartbeats 3200000 in
theorem is18_any(a a':Option Addr)(len cap len' cap':Nat)(hcap:len≤cap)(ps qs:List B.Ins)(w:World)(hp:ProgAt w a len ps)(hq:ProgAt w a' len' qs)(hwf:∀y∈ps,y.Wf)(ht:Tabs w)(hm:B.MayRun ps 2 2)(hd:B.fuse ps=qs)(hz:qs.length≤16384):
    Calls Tryz.prog 11 #[.slice a len cap,.slice a' len' cap'] w (BoolOut true w):=by
 have HQ:=hd' hq;have HC:=hd' (fuse_yes a len cap hcap ps 2 2 w hp hwf ht hm);clear hp hq hwf ht hm;go_enter Tryz.func11,Tryz.ntmps11;go_wp2_with fail;refine HC.out.mono ?_;rintro e w1 ⟨ao,cp,rfl,hown,hb1⟩;rw[hd]at hown⊢;have HO:=hd' hown.progAt;have HB1:=hd' hb1;have hs1:=hb1.size;clear hown hb1 HC;go_wp2_with fail;refine(sameInstrs_yes ao a' qs.length cp len' cap' qs w1 HO.out (HQ.out.below HB1.out (lR' _)) (by omega)).mono ?_;rintro e w2 ⟨rfl,hb2⟩;have HB2:=hd' (HB1.out.trans (hb2.mono hs1));clear hb2;go_wp2_with fail;go_ret;exact⟨rfl,HB2.out⟩
theorem is_held{L:List Spot}{w:World}(h:Held w L){a b:Option Addr}{la ca lb cb:Nat}{ps qs:List B.Ins}(hp:⟨a,la,ca,ps⟩∈L)(hq:⟨b,lb,cb,qs⟩∈L)(ht:Tabs w)(hwf:ps.all wfB=true)(hm:B.program ps 2 2=(0,none))(hd:B.fuse ps=qs)(hz:qs.length≤16384):
    Calls Tryz.prog 11 #[.slice a la ca,.slice b lb cb] w (BoolOut true w):=
 is18_any a b la ca lb cb (h _ hp).cap ps qs w (h _ hp).at_ (h _ hq).at_ (wf_B hwf) ht ((B.program_ok _ _ _).1 hm) hd hz
def kInF:List B.Ins:=[⟨15,1,0,0,0⟩]
def kB00F:List B.Ins:=[⟨2,2,1,0,0⟩,⟨13,2,0,1,1⟩]
def kI00F:List B.Ins:=[⟨15,1,0,0,0⟩,⟨2,2,1,0,0⟩,⟨13,2,0,1,1⟩]
def kB01F:List B.Ins:=[⟨2,2,1,0,0⟩,⟨13,2,0,1,2⟩]
def kOneF:List B.Ins:=[⟨15,1,0,0,0⟩,⟨2,2,1,0,0⟩,⟨13,2,0,1,1⟩,⟨2,2,1,0,0⟩,⟨13,2,0,1,2⟩]
def kB44F:List B.Ins:=[⟨2,2,1,0,0⟩,⟨6,2,0,4,0⟩,⟨13,2,0,1,16⟩]
def kI44F:List B.Ins:=[⟨15,1,0,0,0⟩,⟨2,2,1,0,0⟩,⟨6,2,0,4,0⟩,⟨13,2,0,1,16⟩]
def kB48F:List B.Ins:=[⟨2,2,1,0,0⟩,⟨7,2,0,4,0⟩,⟨13,2,1,1,1⟩]
def kFarF:List B.Ins:=[⟨15,1,0,0,0⟩,⟨2,2,1,0,0⟩,⟨6,2,0,4,0⟩,⟨13,2,0,1,16⟩,⟨2,2,1,0,0⟩,⟨7,2,0,4,0⟩,⟨13,2,1,1,1⟩]
def kWF:List B.Ins:=[⟨2,2,1,0,0⟩,⟨6,2,0,4,0⟩,⟨13,2,0,2,272⟩]
def kWantF:List B.Ins:=[⟨15,1,0,0,0⟩,⟨2,2,1,0,0⟩,⟨6,2,0,4,0⟩,⟨13,2,0,2,272⟩]
def kRF:List B.Ins:=[⟨16,2,0,0,0⟩]
def kReadF:List B.Ins:=[⟨15,1,0,0,0⟩,⟨2,2,1,0,0⟩,⟨13,2,0,1,1⟩,⟨2,2,1,0,0⟩,⟨13,2,0,1,2⟩,⟨16,2,0,0,0⟩]
def kB00bF:List B.Ins:=[⟨2,2,1,0,0⟩,⟨13,2,0,1,1⟩]
def kI00bF:List B.Ins:=[⟨15,1,0,0,0⟩,⟨2,2,1,0,0⟩,⟨13,2,0,1,1⟩]
def kB09F:List B.Ins:=[⟨2,2,1,0,0⟩,⟨13,2,1,1,2⟩]
def kOtherF:List B.Ins:=[⟨15,1,0,0,0⟩,⟨2,2,1,0,0⟩,⟨13,2,0,1,1⟩,⟨2,2,1,0,0⟩,⟨13,2,1,1,2⟩]
def kOutF:List B.Ins:=[⟨1,1,0,0,0⟩,⟨9,2,0,1,0⟩,⟨8,2,0,0,240⟩,⟨7,2,0,4,0⟩,⟨4,1,2,0,0⟩,⟨9,2,1,1,0⟩,⟨8,2,0,0,3⟩,⟨6,2,0,4,0⟩,⟨4,1,2,0,0⟩,⟨16,1,0,0,0⟩]
def kLessF:List B.Ins:=[⟨1,1,0,0,0⟩,⟨9,2,0,2,0⟩,⟨8,2,0,0,1008⟩,⟨7,2,0,4,0⟩,⟨4,1,2,0,0⟩,⟨16,1,0,0,0⟩]
set_option maxRecDepth 100000 in
set_option maxHeartbeats 12800000 in
theorem knownSaid18_any(w:World)(hT:Tabs w):Calls Tryz.prog 4 #[] w (BoolOut true w):=by
 have HT:=hd' hT;clear hT;have H0:Hid (Held w []):=hd' (fun x hx=>by cases hx);go_enter Tryz.func4,Tryz.ntmps4
 go_upto_region 2 with fail
 obtain⟨w1,hw⟩:∃u,w.alloc (.cells #[.int .i64 15,.int .i64 1,.int .i64 0,.int .i64 0,.int .u64 0] 25)=u:=⟨_,rfl⟩;obtain⟨X1,hX⟩:∃X,w.heap.size=X:=⟨_,rfl⟩;obtain⟨hb,hh, -⟩:=H0.out.new hw hX (l:=kInF) (n:=1) rfl rfl;have H1:=hd' hh;have B1:Hid (Below w.heap.size w w1):=hd' (hb);rw[hw]
 try rw[hX]
 clear hw hX hb hh H0;go_wp2_with fail;refine(bit_held H1.out 2 1 0 0 (by omega) (by omega) (by omega) (l:=kB00F) (n:=2) (by decide+kernel) rfl).mono ?_;rintro e w2 ⟨a2,c2,rfl,hb,hh⟩;have H2:=hd' hh;have B2:=hd' (B1.out.trans (hb.mono B1.out.size));clear hb hh H1 B1;go_wp2_with fail;refine(both_held H2.out (ps:=kInF) (qs:=kB00F) (l:=kI00F) (n:=3) (by simp) (by simp) rfl (by omega) rfl).mono ?_;rintro e w3 ⟨a3,c3,rfl,hb,hh⟩;have H3:=hd' hh;have B3:=hd' (B2.out.trans (hb.mono B2.out.size));clear hb hh H2 B2;go_wp2_with fail;refine(bit_held H3.out 2 1 0 1 (by omega) (by omega) (by omega) (l:=kB01F) (n:=2) (by decide+kernel) rfl).mono ?_;rintro e w4 ⟨a4,c4,rfl,hb,hh⟩;have H4:=hd' hh;have B4:=hd' (B3.out.trans (hb.mono B3.out.size));clear hb hh H3 B3;go_wp2_with fail;refine(both_held H4.out (ps:=kI00F) (qs:=kB01F) (l:=kOneF) (n:=5) (by simp) (by simp) rfl (by omega) rfl).mono ?_
 rintro e w5 ⟨a5,c5,rfl,hb,hh⟩;have H5:=hd' hh;have B5:=hd' (B4.out.trans (hb.mono B4.out.size));clear hb hh H4 B4;go_wp2_with fail;refine(bit_held H5.out 2 1 4 4 (by omega) (by omega) (by omega) (l:=kB44F) (n:=3) (by decide+kernel) rfl).mono ?_;rintro e w6 ⟨a6,c6,rfl,hb,hh⟩;have H6:=hd' hh;have B6:=hd' (B5.out.trans (hb.mono B5.out.size));clear hb hh H5 B5;go_wp2_with fail;refine(both_held H6.out (ps:=kInF) (qs:=kB44F) (l:=kI44F) (n:=4) (by simp) (by simp) rfl (by omega) rfl).mono ?_;rintro e w7 ⟨a7,c7,rfl,hb,hh⟩;have H7:=hd' hh;have B7:=hd' (B6.out.trans (hb.mono B6.out.size));clear hb hh H6 B6;go_wp2_with fail;refine(bit_held H7.out 2 1 (-4) 8 (by omega) (by omega) (by omega) (l:=kB48F) (n:=3) (by decide+kernel) rfl).mono ?_;rintro e w8 ⟨a8,c8,rfl,hb,hh⟩;have H8:=hd' hh;have B8:=hd' (B7.out.trans (hb.mono B7.out.size));clear hb hh H7 B7;go_wp2_with fail
 refine(both_held H8.out (ps:=kI44F) (qs:=kB48F) (l:=kFarF) (n:=7) (by simp) (by simp) rfl (by omega) rfl).mono ?_;rintro e w9 ⟨a9,c9,rfl,hb,hh⟩;have H9:=hd' hh;have B9:=hd' (B8.out.trans (hb.mono B8.out.size));clear hb hh H8 B8;go_wp2_with fail;obtain⟨w10,hw⟩:∃u,w9.alloc (.cells #[.int .i64 2,.int .i64 2,.int .i64 1,.int .i64 0,.int .u64 0,.int .i64 6,.int .i64 2,.int .i64 0,.int .i64 4,.int .u64 0,.int .i64 13,.int .i64 2,.int .i64 0,.int .i64 2,.int .u64 272] 25)=u:=⟨_,rfl⟩;obtain⟨X10,hX⟩:∃X,w9.heap.size=X:=⟨_,rfl⟩;obtain⟨hb,hh, -⟩:=H9.out.new hw hX (l:=kWF) (n:=3) rfl rfl;have H10:=hd' hh;have B10:Hid (Below w.heap.size w w10):=hd' (B9.out.trans (hb.mono B9.out.size));rw[hw]
 try rw[hX]
 clear hw hX hb hh H9 B9;refine(both_held H10.out (ps:=kInF) (qs:=kWF) (l:=kWantF) (n:=4) (by simp) (by simp) rfl (by omega) rfl).mono ?_;rintro e w11 ⟨a11,c11,rfl,hb,hh⟩;have H11:=hd' hh;have B11:=hd' (B10.out.trans (hb.mono B10.out.size));clear hb hh H10 B10;go_wp2_with fail;obtain⟨w12,hw⟩:∃u,w11.alloc (.cells #[.int .i64 16,.int .i64 2,.int .i64 0,.int .i64 0,.int .u64 0] 25)=u:=⟨_,rfl⟩;obtain⟨X12,hX⟩:∃X,w11.heap.size=X:=⟨_,rfl⟩;obtain⟨hb,hh, -⟩:=H11.out.new hw hX (l:=kRF) (n:=1) rfl rfl;have H12:=hd' hh;have B12:Hid (Below w.heap.size w w12):=hd' (B11.out.trans (hb.mono B11.out.size));rw[hw]
 try rw[hX]
 clear hw hX hb hh H11 B11;refine(both_held H12.out (ps:=kOneF) (qs:=kRF) (l:=kReadF) (n:=6) (by simp) (by simp) rfl (by omega) rfl).mono ?_;rintro e w13 ⟨a13,c13,rfl,hb,hh⟩;have H13:=hd' hh;have B13:=hd' (B12.out.trans (hb.mono B12.out.size));clear hb hh H12 B12;go_wp2_with fail;refine(bit_held H13.out 2 1 0 0 (by omega) (by omega) (by omega) (l:=kB00bF) (n:=2) (by decide+kernel) rfl).mono ?_;rintro e w14 ⟨a14,c14,rfl,hb,hh⟩;have H14:=hd' hh;have B14:=hd' (B13.out.trans (hb.mono B13.out.size));clear hb hh H13 B13;go_wp2_with fail;refine(both_held H14.out (ps:=kInF) (qs:=kB00bF) (l:=kI00bF) (n:=3) (by simp) (by simp) rfl (by omega) rfl).mono ?_;rintro e w15 ⟨a15,c15,rfl,hb,hh⟩;have H15:=hd' hh;have B15:=hd' (B14.out.trans (hb.mono B14.out.size));clear hb hh H14 B14;go_wp2_with fail
 refine(bit_held H15.out 2 1 0 9 (by omega) (by omega) (by omega) (l:=kB09F) (n:=2) (by decide+kernel) rfl).mono ?_;rintro e w16 ⟨a16,c16,rfl,hb,hh⟩;have H16:=hd' hh;have B16:=hd' (B15.out.trans (hb.mono B15.out.size));clear hb hh H15 B15;go_wp2_with fail;refine(both_held H16.out (ps:=kI00bF) (qs:=kB09F) (l:=kOtherF) (n:=5) (by simp) (by simp) rfl (by omega) rfl).mono ?_;rintro e w17 ⟨a17,c17,rfl,hb,hh⟩;have H17:=hd' hh;have B17:=hd' (B16.out.trans (hb.mono B16.out.size));clear hb hh H16 B16
 go_upto_region 8 with fail
 obtain⟨w18,hw⟩:∃u,w17.alloc (.cells #[.int .i64 1,.int .i64 1,.int .i64 0,.int .i64 0,.int .u64 0,.int .i64 9,.int .i64 2,.int .i64 0,.int .i64 1,.int .u64 0,.int .i64 8,.int .i64 2,.int .i64 0,.int .i64 0,.int .u64 240,.int .i64 7,.int .i64 2,.int .i64 0,.int .i64 4,.int .u64 0,.int .i64 4,.int .i64 1,.int .i64 2,.int .i64 0,.int .u64 0,.int .i64 9,.int .i64 2,.int .i64 1,.int .i64 1,.int .u64 0,.int .i64 8,.int .i64 2,.int .i64 0,.int .i64 0,.int .u64 3,.int .i64 6,.int .i64 2,.int .i64 0,.int .i64 4,.int .u64 0,.int .i64 4,.int .i64 1,.int .i64 2,.int .i64 0,.int .u64 0,.int .i64 16,.int .i64 1,.int .i64 0,.int .i64 0,.int .u64 0] 25)=u:=⟨_,rfl⟩;obtain⟨X18,hX⟩:∃X,w17.heap.size=X:=⟨_,rfl⟩;obtain⟨hb,hh, -⟩:=H17.out.new hw hX (l:=kOutF) (n:=10) rfl rfl;have H18:=hd' hh;have B18:Hid (Below w.heap.size w w18):=hd' (B17.out.trans (hb.mono B17.out.size));rw[hw]
 try rw[hX]
 clear hw hX hb hh H17 B17
 go_upto_region 9 with fail
 obtain⟨w19,hw⟩:∃u,w18.alloc (.cells #[.int .i64 1,.int .i64 1,.int .i64 0,.int .i64 0,.int .u64 0,.int .i64 9,.int .i64 2,.int .i64 0,.int .i64 2,.int .u64 0,.int .i64 8,.int .i64 2,.int .i64 0,.int .i64 0,.int .u64 1008,.int .i64 7,.int .i64 2,.int .i64 0,.int .i64 4,.int .u64 0,.int .i64 4,.int .i64 1,.int .i64 2,.int .i64 0,.int .u64 0,.int .i64 16,.int .i64 1,.int .i64 0,.int .i64 0,.int .u64 0] 25)=u:=⟨_,rfl⟩;obtain⟨X19,hX⟩:∃X,w18.heap.size=X:=⟨_,rfl⟩;obtain⟨hb,hh, -⟩:=H18.out.new hw hX (l:=kLessF) (n:=6) rfl rfl;have H19:=hd' hh;have B19:Hid (Below w.heap.size w w19):=hd' (B18.out.trans (hb.mono B18.out.size));rw[hw]
 try rw[hX]
 clear hw hX hb hh H18 B18;go_wp2_with fail;refine(works18_any _ (HT.out.below B19.out (lR' _))).mono ?_;rintro e w20 ⟨rfl,hb⟩;have H20:=hd' (H19.out.below hb);have B20:=hd' (B19.out.trans (hb.mono B19.out.size));clear hb H19 B19;go_wp2_with fail;refine(is_held H20.out (ps:=kFarF) (qs:=kWantF) (by simp) (by simp) (HT.out.below B20.out (lR' _)) (by decide+kernel) (by decide+kernel) (by decide+kernel) (by decide)).mono ?_;rintro e w21 ⟨rfl,hb⟩;have H21:=hd' (H20.out.below hb);have B21:=hd' (B20.out.trans (hb.mono B20.out.size));clear hb H20 B20;go_wp2_with fail;refine(is_held H21.out (ps:=kReadF) (qs:=kReadF) (by simp) (by simp) (HT.out.below B21.out (lR' _)) (by decide+kernel) (by decide+kernel) (by decide+kernel) (by decide)).mono ?_;rintro e w22 ⟨rfl,hb⟩;have H22:=hd' (H21.out.below hb);have B22:=hd' (B21.out.trans (hb.mono B21.out.size));clear hb H21 B21;go_wp2_with fail
 refine(is_held H22.out (ps:=kOtherF) (qs:=kOtherF) (by simp) (by simp) (HT.out.below B22.out (lR' _)) (by decide+kernel) (by decide+kernel) (by decide+kernel) (by decide)).mono ?_;rintro e w23 ⟨rfl,hb⟩;have H23:=hd' (H22.out.below hb);have B23:=hd' (B22.out.trans (hb.mono B22.out.size));clear hb H22 B22;go_wp2_with fail;refine(is_held H23.out (ps:=kOutF) (qs:=kLessF) (by simp) (by simp) (HT.out.below B23.out (lR' _)) (by decide+kernel) (by decide+kernel) (by decide+kernel) (by decide)).mono ?_;rintro e w24 ⟨rfl,hb⟩;have H24:=hd' (H23.out.below hb);have B24:=hd' (B23.out.trans (hb.mono B23.out.size));clear hb H23 B23;go_wp2_with fail;go_ret;exact⟨rfl,B24.out⟩
end Code
end Go.Proofs.YtpibampaobncaaaGreatDoor
