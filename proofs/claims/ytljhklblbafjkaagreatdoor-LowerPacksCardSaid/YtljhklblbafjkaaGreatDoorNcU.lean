/- What the laws of lower against the document's answer need: truths held against truths; a run's telling; what a message's programs tell. -/
import Derived.Test.YtljhklblbafjkaaGreatDoorNcV
import Derived.Test.YtljhklblbafjkaaGreatDoorLxR
import Derived.Test.YtljhklblbafjkaaGreatDoorLxQ
import Derived.Test.YtljhklblbafjkaaGreatDoorLoQ
open Go.Lib renaming hid→hd'
open Nat renaming le_refl→lR'
namespace Go.Proofs.YtljhklblbafjkaaGreatDoor
open Go.RowKit
namespace B
def padL(vs:List Nat)(n:Nat):List Nat:=(List.range n).map fun i=>vs.getD i 0
theorem padL_len(vs:List Nat)(n:Nat):(padL vs n).length=n:=by simp[padL]
theorem padL_words{vs:List Nat}(h:Words vs)(n:Nat):Words (padL vs n):=fun b hb=>by
 obtain⟨i,_,rfl⟩:=List.mem_map.1 hb;rw[List.getD_eq_getElem?_getD]
 cases hi:vs[i]? with
 | none=>decide
 | some x=>exact h x (List.mem_of_getElem? hi)
theorem padL_bytes{vs:List Nat}(h:Bytes vs)(n:Nat):Bytes (padL vs n):=fun b hb=>by
 obtain⟨i,_,rfl⟩:=List.mem_map.1 hb;rw[List.getD_eq_getElem?_getD]
 cases hi:vs[i]? with
 | none=>decide
 | some x=>exact h x (List.mem_of_getElem? hi)
theorem unpack_told{m:Msg}(h:m.Ok){pay:List Nat}(hp:pay.length=m.size.toNat)(inp:List Nat):
    ∃s' n,run m.unpackI inp 0 (start pay m.sigs.length)=⟨none,s',n⟩∧s'.pay=pay∧s'.has=m.actives (m.muxP pay)∧s'.out.length=m.sigs.length∧
     ∀k,k<m.sigs.length→(m.actives (m.muxP pay)).getD k false=true→s'.out.getD k 0=(m.reads pay (m.muxP pay)).getD k 0:=by
 obtain⟨s',n,hr,h1,h2,h3⟩:=unpack_run (inp:=inp) h.lays hp m.sigs.length
 have hl:s'.out.length=m.sigs.length:=by rw[h2,outTo_len,List.length_replicate]
 refine⟨s',n,hr,h1,by rw[h3,hasTo_actives],hl,fun k hk ha=> ?_⟩;have hs:m.sigs[k]? =some (m.sigs[k]'hk):=List.getElem?_eq_getElem _;generalize m.sigs[k]'hk=s at hs;rw[actives_get hs]at ha;have h4:=outTo_at pay (m.muxP pay) m.sigs 0 (List.replicate m.sigs.length 0) k s hs (by rw[List.length_replicate];omega);rw[Nat.zero_add,if_pos ha]at h4;rw[h2,h4];unfold Msg.reads;rw[List.getD_eq_getElem?_getD,List.getElem?_map,hs];simp[ha]
end B
namespace Code
def BoolOut(b:Bool)(w:World)(r:Ending)(w':World):Prop:=r= .returned (.bool b)∧Below w.heap.size w w'
theorem wf_rightL{x:B.Ins}(h:x.right=true):x.Wf:=by
 have:=B.right_bounds h
 refine⟨⟨?_, ?_⟩,⟨?_, ?_⟩,⟨?_, ?_⟩,⟨?_, ?_⟩,⟨?_, ?_⟩⟩<;>omega
theorem MsgWf.ok{m:B.Msg}(hm:MsgWf m)(h0:m.no.1=0):m.Ok:=B.Msg.ok_of h0 (fun s hs=>(hm.sigs s hs).branch)
theorem slotsV_pad(vs:List Nat)(n:Nat):slotsV vs n=(B.padL vs n).map u64V:=by
 unfold slotsV B.padL;rw[List.map_map];rfl
theorem sizedV_pad(vs:List Nat)(n:Nat):sizedV vs n=(B.padL vs n).map u8V:=by
 unfold sizedV B.padL;rw[List.map_map];rfl
attribute [local go_sem ↓] Go.wp_at_zero Go.wp_at_succ
set_option maxRecDepth 100000 in
set_option maxHeartbeats 1600000 in
theorem sameBools_any(a b:Option Addr)(n ca m cb:Nat)(xs ys:List Bool)(w:World)(ha:ListAt w a n (xs.map Value.bool))(hb:ListAt w b m (ys.map Value.bool))(hn:n≤9223372036854775807):
    Calls Tryz.prog 13 #[.slice a n ca,.slice b m cb] w (fun e w'=>e= .returned (.bool (decide (xs=ys)))∧Below w.heap.size w w'):=by
 have hla:=ha.len;have hlb:=hb.len;rw[List.length_map]at hla hlb;have HA:=hd' ha;have HB:=hd' hb;have HLA:=hd' hla;have HLB:=hd' hlb;clear ha hb hla hlb
 by_cases hnm:n=m
 ·subst hnm
  go_enter Tryz.func13,Tryz.ntmps13;go_wp2_with fail
  go_loopw [5] (fun i wr=>∃k:Nat,k≤n∧i= .int .i64 k∧xs.take k=ys.take k∧Below w.heap.size w wr) (fun i _=>n-(intOf i).toNat)
  case atStart=>exact⟨0,Nat.zero_le _,rfl,by simp,Below.refl _ _⟩
  case round=>
   obtain⟨k,hk,rfl,he,hbl⟩:=hrel;have HE:=hd' he;have HBL:=hd' hbl;clear he hbl
   by_cases hlt:k<n
   ·have hx:xs[k]? =some (xs[k]'(by have:=HLA.out;omega)):=List.getElem?_eq_getElem _
    have hy:ys[k]? =some (ys[k]'(by have:=HLB.out;omega)):=List.getElem?_eq_getElem _;generalize xs[k]'(by have:=HLA.out;omega)=x at hx;generalize ys[k]'(by have:=HLB.out;omega)=y at hy;obtain⟨b1,o1,rfl,hl1,hc1⟩:=HA.out.at_ k (Value.bool x) (by rw[List.getElem?_map,hx];rfl);obtain⟨b2,o2,rfl,hl2,hc2⟩:=HB.out.at_ k (Value.bool y) (by rw[List.getElem?_map,hy];rfl);replace hc1:=(HBL.out.cell (p:=⟨b1,o1+k,none⟩) hl1).trans hc1;replace hc2:=(HBL.out.cell (p:=⟨b2,o2+k,none⟩) hl2).trans hc2
    skip
    have HX:=hd' hx;have HY:=hd' hy;clear hx hy hl1 hl2
    cases x with
    | false=>
     cases y with
     | false=>
      go_wp2_with fail;refine wp_region_still_lit (by kernel_rfl) (by kernel_rfl) ?_
      repeat still_step
      refine wpStill_nil ?_;go_wp2_with fail;go_roundw
      case rel=>exact⟨k+1,by omega,by go_num,by rw[List.take_add_one,List.take_add_one,HX.out,HY.out,HE.out],HBL.out.drew⟩
      case measure=>simp[intOf];omega
     | true=>
      go_wp2_with fail;refine wp_region_still_lit (by kernel_rfl) (by kernel_rfl) ?_
      repeat still_step
      refine wpStill_nil ?_;go_wp2_with fail;go_ret;refine⟨ret_bool ?_,HBL.out.drew⟩
      symm
      rw[decide_eq_false_iff_not];rintro rfl;have:=HX.out.symm.trans HY.out;simp at this
    | true=>
     cases y with
     | false=>
      go_wp2_with fail;refine wp_region_still_lit (by kernel_rfl) (by kernel_rfl) ?_
      repeat still_step
      refine wpStill_nil ?_;go_wp2_with fail;go_ret;refine⟨ret_bool ?_,HBL.out.drew⟩
      symm
      rw[decide_eq_false_iff_not];rintro rfl;have:=HX.out.symm.trans HY.out;simp at this
     | true=>
      go_wp2_with fail;refine wp_region_still_lit (by kernel_rfl) (by kernel_rfl) ?_
      repeat still_step
      refine wpStill_nil ?_;go_wp2_with fail;go_roundw
      case rel=>exact⟨k+1,by omega,by go_num,by rw[List.take_add_one,List.take_add_one,HX.out,HY.out,HE.out],HBL.out.drew⟩
      case measure=>simp[intOf];omega
   ·obtain rfl:k=n:=by omega
    go_wp2_with fail;go_ret;refine⟨ret_bool ?_,HBL.out⟩
    symm
    rw[decide_eq_true_iff];have:=HE.out;rw[List.take_of_length_le (by have:=HLA.out;omega),List.take_of_length_le (by have:=HLB.out;omega)]at this;exact this
 ·have q0:((n:Int) !=(m:Int))=true:=by simp;omega
  have HNM:=hd' hnm;clear hnm;go_enter Tryz.func13,Tryz.ntmps13;go_wp2_with fail;go_ret;refine⟨ret_bool ?_,Below.refl _ _⟩
  symm
  rw[decide_eq_false_iff_not];rintro rfl;exact HNM.out (HLA.out.trans HLB.out.symm)
set_option maxRecDepth 100000 in
theorem field_fault0(a b c:Value)(w:World):(Instr.field 36 (.agg #[a,b,c]) 0).run Tryz.prog w= .ok a w:=by rfl
theorem rmessage_ok(m:B.Msg)(sa:Option Addr)(n cap:Nat)(w:World)(hm:MsgWf m)(hs:SigsAt w sa n m.sigs)(h:m.no.1=0):
    Calls Tryz.prog 7 #[.agg (msgC m (.slice sa n cap))] w (fun e w'=>e= .returned (.agg #[.int .i64 0,.int .i64 0,.int .i64 0])∧Below w.heap.size w w'):=by
 refine(rmessage_any m sa n cap w hm hs).mono ?_;rintro e w' ⟨he,hb⟩;unfold faultC at he;rw[if_pos h]at he;exact⟨he,hb⟩
theorem rmessage_no(m:B.Msg)(sa:Option Addr)(n cap:Nat)(w:World)(hm:MsgWf m)(hs:SigsAt w sa n m.sigs)(h:m.no.1≠0):
    Calls Tryz.prog 7 #[.agg (msgC m (.slice sa n cap))] w (fun e w'=>e= .returned (.agg #[.int .i64 m.no.1,.int .i64 m.no.2.1,.int .i64 m.no.2.2])∧Below w.heap.size w w'):=by
 refine(rmessage_any m sa n cap w hm hs).mono ?_;rintro e w' ⟨he,hb⟩;unfold faultC at he;rw[if_neg h]at he;exact⟨he,hb⟩
def RunN(f:Bool)(sl:Int)(pay out:List Nat)(has:List Bool)(st z n k:Nat)(w:World)(e:Ending)(w':World):Prop:=
 ∃a1 c1 a2 c2 a3 c3,e= .returned (.tuple #[.agg #[.bool f,.int .i64 sl,.slice a1 z c1,.slice a2 n c2,.slice a3 k c3,.int .i64 (st:Int)],.nilIface])∧
  One.OwnV 5 w' w.heap.size a1 z c1 (pay.map u8V)∧One.OwnV 49 w' w.heap.size a2 n c2 (out.map u64V)∧One.OwnV 4 w' w.heap.size a3 k c3 (has.map Value.bool)∧Below w.heap.size w w'
theorem RunUni.ok{r:B.Out}{w w':World}{e:Ending}{z n k:Nat}(h:RunUni r w e w')(hf:r.failed=none)(hz:r.st.pay.length=z)(hn:r.st.out.length=n)(hk:r.st.has.length=k):RunN false 0 r.st.pay r.st.out r.st.has r.steps z n k w e w':=by
 unfold RunUni fl slotOf payL outL hasL at h;rw[hf]at h;simp only[Option.isSome_none,Bool.false_eq_true,if_false,Option.getD_none]at h;rw[hz,hn,hk]at h;exact h
theorem RunUni.no{r:B.Out}{w w':World}{e:Ending}{q:Int}(h:RunUni r w e w')(hf:r.failed=some q):RunN true q [] [] [] r.steps 0 0 0 w e w':=by
 unfold RunUni fl slotOf payL outL hasL at h;rw[hf]at h;exact h
end Code
end Go.Proofs.YtljhklblbafjkaaGreatDoor
namespace Go.Proofs.YtljhklblbafjkaaGreatDoor
open Go.RowKit
namespace B
theorem laid_told{m:Msg}(h:m.Ok){pay inp q:List Nat}(hp:pay.length=m.size.toNat)(hb:Bytes pay)(hl:laidL inp (m.muxV inp) 0 m.sigs (List.replicate m.size.toNat 0)= .ok q):
    ∃s' n,run m.packI inp 0 (start pay m.sigs.length)=⟨none,s',n⟩∧s'.has=List.replicate m.sigs.length false∧s'.pay=q∧s'.pay.length=m.size.toNat∧s'.out.length=m.sigs.length:=by
 have h1:=run_laid h (inp:=inp) hp hb m.sigs.length;rw[hl]at h1;obtain⟨s',n,hr,hh,hpay⟩:=h1;have h2:=pack_run h.lays (inp:=inp) hp hb m.sigs.length
 cases hpk:packTo inp (m.muxV inp) 0 m.sigs (fun _=>false)with
 | error k=>
  rw[hpk]at h2;simp only at h2;rw[hr]at h2;cases h2
 | ok f=>
  rw[hpk]at h2;obtain⟨s2,n2,hr2,ho,_,hpl,_⟩:=h2;rw[hr]at hr2;injection hr2 with _ hst _;subst hst;exact⟨s',n,hr,hh,hpay,hpl,by rw[ho,List.length_replicate]⟩
end B
namespace Code
attribute [local go_sem ↓] Go.wp_at_zero Go.wp_at_succ
set_option maxRecDepth 100000 in
set_option maxHeartbeats 3200000 in
theorem lawlaid_no(m:B.Msg)(sa:Option Addr)(n cap:Nat)(va:Option Addr)(vc zz k:Nat)(inp:List Nat)(a1 a2 a3:Option Addr)(c1 c2 c3 st:Nat)(w:World)(hok:m.Ok)(hs:SigsAt w sa n m.sigs)(hz0:(zz:Int)=m.size)(hv:ListAt w va n (inp.map u64V))(hwi:B.Words inp)
    (hl:B.laidL inp (m.muxV inp) 0 m.sigs (List.replicate zz 0)= .error k):
    Calls Tryz.prog 15 #[.agg (msgC m (.slice sa n cap)),.agg #[.bool true,.int .i64 (k:Int),.slice a1 0 c1,.slice a2 0 c2,.slice a3 0 c3,.int .i64 (st:Int)],.slice va n vc] w (BoolOut true w):=by
 have hrow:=RC.new (msgC m (.slice sa n cap)) 27 w (n:=8) rfl rfl;have hbel:Below w.heap.size w (w.alloc (.cells (msgC m (.slice sa n cap)) 27)):=(Below.refl _ _).alloc (lR' _) _;obtain⟨w1,hw1⟩:∃w1,w.alloc (.cells (msgC m (.slice sa n cap)) 27)=w1:=⟨_,rfl⟩;rw[hw1]at hrow hbel;have hran:=RC.new #[.bool true,.int .i64 (k:Int),.slice a1 0 c1,.slice a2 0 c2,.slice a3 0 c3,.int .i64 (st:Int)] 41 w1 (n:=6) rfl rfl;have hb12:Below w1.heap.size w1 (w1.alloc (.cells #[.bool true,.int .i64 (k:Int),.slice a1 0 c1,.slice a2 0 c2,.slice a3 0 c3,.int .i64 (st:Int)] 41)):=(Below.refl _ _).alloc (lR' _) _;obtain⟨w2,hw2⟩:∃w2,w1.alloc (.cells #[.bool true,.int .i64 (k:Int),.slice a1 0 c1,.slice a2 0 c2,.slice a3 0 c3,.int .i64 (st:Int)] 41)=w2:=⟨_,rfl⟩;rw[hw2]at hran hb12;have hrr:=RC.range (hrow.low hb12 hrow.blk)
 have hb2:=hbel.trans (hb12.mono hbel.size);have HB:=hd' hb2;have HRAN:=hd' hran;have hla:=(rlaid_any m sa n cap va vc zz inp w2 hok (hs.below hb2 (lR' _)) hz0 (hv.below hb2 (lR' _)) hwi);rw[hl]at hla;unfold LaidTwo at hla;clear hrow hbel hran hb12 hb2 hok hs hz0 hv hwi hl;go_enter Tryz.func15,Tryz.ntmps15
 go_upto_region 1 with fail
 try rw[hw1]
 try rw[hw2]
 clear hw1 hw2
 have e1:((k:Int)≥0)=True:=by simp
 go_upto_region 3 with(first
  | refine wpList_load_mid (by rfl) 27 _ (by rfl) w.heap.size 0 (by rfl) (msgC m (.slice sa n cap)).toList _ hrr Tryz.underlying27 (by rfl) (by kernel_rfl) ?_
  | (go_at_call 41;refine hla.mono ?_;rintro e w3 ⟨rfl,hb3⟩))
 have hr3:=HRAN.out.low hb3 HRAN.out.blk;have x0:w3.cell? ⟨w1.heap.size,0,none⟩=some (.bool true):=hr3.cell (j:=0) rfl;have x1:w3.cell? ⟨w1.heap.size,1,none⟩=some (.int .i64 (k:Int)):=hr3.cell (j:=1) rfl;clear hr3 hrr hla;go_wp2_with fail;go_ret;exact⟨rfl,HB.out.trans (hb3.mono HB.out.size)⟩
set_option maxRecDepth 100000 in
set_option maxHeartbeats 3200000 in
theorem lawlaid_yes(m:B.Msg)(sa:Option Addr)(n cap:Nat)(va:Option Addr)(vc zz:Nat)(inp q:List Nat)(a1 a2 a3:Option Addr)(c1 c2 c3 st:Nat)(w:World)(hok:m.Ok)(hs:SigsAt w sa n m.sigs)(hz0:(zz:Int)=m.size)(hv:ListAt w va n (inp.map u64V))(hwi:B.Words inp)
    (hl:B.laidL inp (m.muxV inp) 0 m.sigs (List.replicate zz 0)= .ok q) (hq:q.length=zz) (h1:ListAt w a1 zz (q.map u8V)) (h3:ListAt w a3 n ((List.replicate n false).map Value.bool)):
    Calls Tryz.prog 15 #[.agg (msgC m (.slice sa n cap)),.agg #[.bool false,.int .i64 0,.slice a1 zz c1,.slice a2 n c2,.slice a3 n c3,.int .i64 (st:Int)],.slice va n vc] w (BoolOut true w):=by
 have hz8:zz≤8:=by have:=hok.size;omega
 have hn64:n≤64:=by rw[hs.len];exact hok.count
 have hrow:=RC.new (msgC m (.slice sa n cap)) 27 w (n:=8) rfl rfl;have hbel:Below w.heap.size w (w.alloc (.cells (msgC m (.slice sa n cap)) 27)):=(Below.refl _ _).alloc (lR' _) _;obtain⟨w1,hw1⟩:∃w1,w.alloc (.cells (msgC m (.slice sa n cap)) 27)=w1:=⟨_,rfl⟩;rw[hw1]at hrow hbel;have hran:=RC.new #[.bool false,.int .i64 0,.slice a1 zz c1,.slice a2 n c2,.slice a3 n c3,.int .i64 (st:Int)] 41 w1 (n:=6) rfl rfl;have hb12:Below w1.heap.size w1 (w1.alloc (.cells #[.bool false,.int .i64 0,.slice a1 zz c1,.slice a2 n c2,.slice a3 n c3,.int .i64 (st:Int)] 41)):=(Below.refl _ _).alloc (lR' _) _;obtain⟨w2,hw2⟩:∃w2,w1.alloc (.cells #[.bool false,.int .i64 0,.slice a1 zz c1,.slice a2 n c2,.slice a3 n c3,.int .i64 (st:Int)] 41)=w2:=⟨_,rfl⟩;rw[hw2]at hran hb12;have hrr:=RC.range (hrow.low hb12 hrow.blk)
 have hb2:=hbel.trans (hb12.mono hbel.size);have HB:=hd' hb2;have HRAN:=hd' hran;have hla:=(rlaid_any m sa n cap va vc zz inp w2 hok (hs.below hb2 (lR' _)) hz0 (hv.below hb2 (lR' _)) hwi);rw[hl]at hla;unfold LaidTwo at hla;simp only at hla;rw[hq]at hla;have H1:=hd' (h1.below hb2 (lR' _));have H3:=hd' (h3.below hb2 (lR' _));clear hrow hbel hran hb12 hb2 hok hs hz0 hv hwi hl h1 h3 hq;go_enter Tryz.func15,Tryz.ntmps15
 go_upto_region 1 with fail
 try rw[hw1]
 try rw[hw2]
 clear hw1 hw2
 go_upto_region 4 with(first
  | refine wpList_load_mid (by rfl) 27 _ (by rfl) w.heap.size 0 (by rfl) (msgC m (.slice sa n cap)).toList _ hrr Tryz.underlying27 (by rfl) (by kernel_rfl) ?_
  | (go_at_call 41;refine hla.mono ?_;rintro e w3 ⟨qa,qc,rfl,hq3,hb3⟩))
 have hr3:=HRAN.out.low hb3 HRAN.out.blk;have HR3:=hd' hr3;have HQ3:=hd' hq3;have HB3:=hd' (HB.out.trans (hb3.mono HB.out.size));have H13:=hd' (H1.out.below hb3 (lR' _));have H33:=hd' (H3.out.below hb3 (lR' _));have x4:w3.cell? ⟨w1.heap.size,4,none⟩=some (.slice a3 n c3):=hr3.cell (j:=4) rfl;have x0:w3.cell? ⟨w1.heap.size,0,none⟩=some (.bool false):=hr3.cell (j:=0) rfl;have x2:w3.cell? ⟨w1.heap.size,2,none⟩=some (.slice a1 zz c1):=hr3.cell (j:=2) rfl;have hsb:=sameBytes_any a1 qa zz c1 zz qc q q w3 H13.out HQ3.out (by omega);rw[decide_eq_true rfl]at hsb;clear hr3 hrr hla hq3 hb3 HRAN H1 H3;go_wp2_with fail
 go_loop [9] (fun i=>∃k:Nat,k≤n∧i= .int .i64 (k:Int)) (fun i=>n-(intOf i).toNat)
 case atStart=>exact⟨0,by omega,rfl⟩
 case round=>
  obtain⟨k,hk,rfl⟩:=hrel
  by_cases hlt:k<n
  ·have e1:((k:Int)<(n:Int))=True:=by simp;omega
   have q0:(0:Int)≤(k:Int):=by omega
   have q1:(k:Int)<n:=by omega
   obtain⟨b3,o3,rfl,_,hc3⟩:=H33.out.at_ k (.bool false) (by rw[List.getElem?_map,List.getElem?_replicate,if_pos hlt];rfl);clear hsb;go_wp2_with fail
   go_round
   case rel=>exact⟨k+1,by omega,by go_num⟩
   case measure=>simp[intOf];omega
  ·obtain rfl:n=k:=by omega
   have e1:((n:Int)<(n:Int))=False:=by simp
   go_wp2_with fail;refine hsb.mono ?_;rintro e w4 ⟨rfl,hb4⟩;go_wp2_with fail;go_ret;exact⟨rfl,HB3.out.trans (hb4.mono HB3.out.size)⟩
end Code
end Go.Proofs.YtljhklblbafjkaaGreatDoor
