/- Lists of numbers that came in, opened. -/
import Derived.Test.YtpibampaobncaaaGreatDoorOpenQ
import Derived.Test.YtpibampaobncaaaGreatDoorVmP
import Derived.Test.YtpibampaobncaaaGreatDoorFusZ
import Derived.Test.YtpibampaobncaaaGreatDoorFuY
import Derived.Test.YtpibampaobncaaaGreatDoorVmQ
import Derived.Test.YtpibampaobncaaaGreatDoorMoreQ
import Derived.Deep.Cut
import Derived.Deep.RegionHeld3
open Go.Lib renaming hid→hd'
open Nat renaming le_refl→lR'
namespace Go.Proofs.YtpibampaobncaaaGreatDoor
open Go.ChangeShapes Go.WideShapes Go.ChangeAt Go.RowKit Go.Proofs.YtpibampaobncaaaGreatDoor.Code
theorem cells5:Tryz.prog.cellsOf 5=1:=by kernel_rfl
section
variable {H:Type} {enc:TypeId×Value→H} {w:World} {held:Bool}
end
end Go.Proofs.YtpibampaobncaaaGreatDoor
namespace Go.Proofs.YtpibampaobncaaaGreatDoor
open Go.RowKit Go.Proofs.YtpibampaobncaaaGreatDoor.Code
namespace LawFuseSame
attribute [local go_sem ↓] Go.wp_at_zero Go.wp_at_succ
theorem seen_same{r r':B.Out}(hf:r.failed=r'.failed)(h:B.Seen r.st r'.st):Same r r':=by
 refine⟨?_, ?_, ?_, ?_, ?_⟩
 ·unfold fl;rw[hf]
 ·unfold slotOf;rw[hf]
 ·unfold payL;rw[hf,h.pay]
 ·unfold outL;rw[hf,h.out]
 ·unfold hasL;rw[hf,h.has]
set_option maxRecDepth 100000 in
set_option maxHeartbeats 3200000 in
theorem law(a0:Option Addr)(len0 cap0:Nat)(ps0:List B.Ins)(pa1:Option Addr)(pn1 pc1:Nat)(pay1:List Nat)(ia2:Option Addr)(im2 ic2:Nat)(inp2:List Nat)(w:World)(hp0:ProgAt w a0 len0 ps0)(hwf0:∀y∈ps0,y.Wf)(hl0:len0*40≤140737488351232)(hn0:a0=none→cap0=0)(hc0:len0≤cap0)(hy1:ListAt w pa1 pn1 (pay1.map u8V))(hb1:B.Bytes pay1)(hyn1:pa1=none→pc1=0)(hyl1:pn1≤9223372036854775807)(hu2:ListAt w ia2 im2 (inp2.map u64V))(hw2:B.Words inp2)(hun2:ia2=none→ic2=0)(hul2:im2≤9223372036854775807)(hR:Tabs w):
    Calls Tryz.prog 15 #[.slice a0 len0 cap0,.slice pa1 pn1 pc1,.slice ia2 im2 ic2] w (BoolOut true w):=by
 have _U0:=hd' hn0;have _U1:=hd' hyn1;have _U2:=hd' hun2;have HP:=hd' hp0;have HWF:=hd' hwf0;have HY:=hd' hy1;have HBY:=hd' hb1;have HU:=hd' hu2;have HW:=hd' hw2;have HR:=hd' hR
 have hlw:len0≤3518437208780:=by omega
 clear hp0 hwf0 hn0 hyn1 hun2 hy1 hb1 hu2 hw2 hR hl0;have _:=hyl1;have _:=hul2
 by_cases hm:B.MayRun ps0 pn1 im2
 ·have HM:=hd' hm
  have hlen:len0≤16384:=by rw[HP.out.len];exact hm.len
  have hql:(B.fuse ps0).length≤len0:=by rw[HP.out.len];exact B.fuse_len hm.ok
  have hpn:pay1.length=pn1:=by have:=HY.out.len;rw[List.length_map]at this;exact this.symm
  have hst:B.StOk pn1 im2 (B.start pay1 im2):=by rw[←hpn];exact B.start_ok im2 HBY.out
  have hdr:=B.fuse_run hm HW.out hst;obtain⟨r,hq⟩:∃r,B.run ps0 inp2 0 (B.start pay1 im2)=r:=⟨_,rfl⟩;obtain⟨r',hq'⟩:∃r',B.run (B.fuse ps0) inp2 0 (B.start pay1 im2)=r':=⟨_,rfl⟩;rw[hq,hq']at hdr;obtain⟨d1,d3⟩:=hdr;have HSM:=hd' (seen_same d1 d3)
  have hrs:r.steps≤16384:=by have:=B.steps_le ps0 inp2 0 (B.start pay1 im2);rw[hq]at this;have:=HP.out.len;omega
  have HQ:=hd' hq;have HQ':=hd' hq';have HMQ:=hd' hm.fuse;clear hm hq hq' d1 d3 hpn hst;go_enter Tryz.func15,Tryz.ntmps15;go_wp2_with fail;refine(run_same (r:=r) (Same.refl r) rfl a0 pa1 ia2 len0 cap0 pn1 pc1 im2 ic2 ps0 pay1 inp2 _ HP.out HWF.out HR.out (by omega) HM.out HY.out HU.out HBY.out HW.out HQ.out).mono ?_;rintro e w2 ⟨xa,xc,ya,yc,za,zc,rfl,o1,o2,o3,⟨s1,s2,s3⟩,hb2⟩;have hs2:=hb2.size;have O1:=hd' o1;have O2:=hd' o2;have O3:=hd' o3;have HB2:=hd' hb2;clear o1 o2 o3 hb2;go_wp2_with fail;have hb3:=(Below.refl w2.heap.size w2).alloc (lR' _) (.cells #[.bool (fl r),.int .i64 (slotOf r),.slice xa (payL r).length xc,.slice ya (outL r).length yc,.slice za (hasL r).length zc,.int .i64 (r.steps:Int)] 49)
  have hA3:=heap_alloc_new w2 (.cells #[.bool (fl r),.int .i64 (slotOf r),.slice xa (payL r).length xc,.slice ya (outL r).length yc,.slice za (hasL r).length zc,.int .i64 (r.steps:Int)] 49);have hB3:=HB2.out.trans (hb3.mono hs2);refine(fuse_yes a0 len0 cap0 hc0 ps0 pn1 im2 _ (HP.out.below hB3 (lR' _)) HWF.out (HR.out.below hB3 (lR' _)) HM.out).mono ?_;rintro e w4 ⟨ao,cp,rfl,hown,hb4⟩;generalize B.fuse ps0=q at*;have HA4:=hd' ((hb4.block w2.heap.size (by simp)).trans hA3);have HB24:=hd' (hb3.trans (hb4.mono (by simp)));have HB4:=hd' (HB2.out.trans (HB24.out.mono hs2));have HO:=hd' hown;have hs4:=HB4.out.size;have hs24:w2.heap.size<w4.heap.size:=lt_of_block HA4.out
  have HQWF:Hid (∀y∈q,y.Wf):=fun y hy=>wf_right (HMQ.out.ok.mem y hy)
  clear hb3 hb4 hA3 hB3 hown;have HP4:Hid (ProgAt w4 ao q.length q):=HO.out.progAt
  go_upto_region 3 with fail
  go_region_held3 (fun _=>True) (exact trivial) ((refine(works18_any _ (HR.out.below HB4.out.drew (lR' _))).mono ?_;rintro e w5 ⟨rfl,hb5⟩;have HB45:=hd' (((Below.refl w4.heap.size w4).drew).trans (hb5.mono (lR' _)));clear hb5))
  have HB5:=hd' (HB4.out.trans (HB45.out.mono hs4));have HA5:=hd' ((HB45.out.block w2.heap.size (by omega)).trans HA4.out);have HB25:=hd' (HB24.out.trans (HB45.out.mono (by omega)));have HP5:Hid (ProgAt w5 ao q.length q):=HP4.out.below HB45.out (lR' _);have hs5:=HB5.out.size;have hs25:w2.heap.size<w5.heap.size:=lt_of_block HA5.out;clear HB45;go_wp2_with fail;refine(run_same (r:=r) (r':=r') (n:=r'.steps) HSM.out rfl ao pa1 ia2 q.length cp pn1 pc1 im2 ic2 q pay1 inp2 _ HP5.out HQWF.out (HR.out.below HB5.out (lR' _)) (by omega) HMQ.out (HY.out.below HB5.out (lR' _)) (HU.out.below HB5.out (lR' _)) HBY.out HW.out HQ'.out).mono ?_;rintro e w7 ⟨xa',xc',ya',yc',za',zc',rfl,o1,o2,o3,_,hb7⟩;have hG:w7.heap[w2.heap.size]? =_:=(hb7.block w2.heap.size (by omega)).trans HA5.out
  have q0:w7.cell? ⟨w2.heap.size,0,none⟩=some (.bool (fl r)):=by rw[cell_of_row _ _ _ _ _ _ hG];rfl
  have q1:w7.cell? ⟨w2.heap.size,1,none⟩=some (.int .i64 (slotOf r)):=by rw[cell_of_row _ _ _ _ _ _ hG];rfl
  have q2:w7.cell? ⟨w2.heap.size,2,none⟩=some (.slice xa (payL r).length xc):=by rw[cell_of_row _ _ _ _ _ _ hG];rfl
  have q3:w7.cell? ⟨w2.heap.size,3,none⟩=some (.slice ya (outL r).length yc):=by rw[cell_of_row _ _ _ _ _ _ hG];rfl
  have q4:w7.cell? ⟨w2.heap.size,4,none⟩=some (.slice za (hasL r).length zc):=by rw[cell_of_row _ _ _ _ _ _ hG];rfl
  have q5:w7.cell? ⟨w2.heap.size,5,none⟩=some (.int .i64 (r.steps:Int)):=by rw[cell_of_row _ _ _ _ _ _ hG];rfl
  have hX7:w2.heap.size<w7.heap.size:=lt_of_block hG;have P1:=hd' o1;have P2:=hd' o2;have P3:=hd' o3;have HB7:=hd' (HB5.out.trans (hb7.mono hs5));have HB27:=hd' (HB25.out.trans (hb7.mono (by omega)))
  have g1:decide (q.length≤len0)=true:=by simpa using hql
  clear hG o1 o2 o3 hb7;go_wp2_with fail;obtain⟨w8,hw8⟩:∃w8,(w7.alloc (.cells #[.bool (fl r),.int .i64 (slotOf r),.slice xa' (payL r).length xc',.slice ya' (outL r).length yc',.slice za' (hasL r).length zc',.int .i64 (r.steps:Int)] 49))=w8:=⟨_,rfl⟩;rw[hw8]
  have hB8:Below w2.heap.size w2 w8:=by rw[←hw8];exact HB27.out.alloc (by omega) _
  have HB8:Hid (Below w.heap.size w w8):=by rw[←hw8];exact HB7.out.alloc (by omega) _
  have hpb:∀k,w5.heap.size≤k∧k<w7.heap.size→w8.heap[k]? =w7.heap[k]? :=by
   intro k hk;rw[←hw8];exact(World.grownBy_alloc _ _ none).block k hk.2 (by simp)
  have A1:=hd' ((ListAt.ofOwn O1.out).below hB8 (lR' _));have A2:=hd' ((ListAt.ofOwn O2.out).below hB8 (lR' _));have A3:=hd' ((ListAt.ofOwn O3.out).below hB8 (lR' _));have B1:=hd' (ListAt.ofOwn (ownsRow_of P1.out (fun k hk=>hpb k (P1.out.lt k hk))));have B2:=hd' (ListAt.ofOwn (ownsRow_of P2.out (fun k hk=>hpb k (P2.out.lt k hk))));have B3:=hd' (ListAt.ofOwn (ownsRow_of P3.out (fun k hk=>hpb k (P3.out.lt k hk))));clear hw8 hB8 hpb q0 q1 q2 q3 q4 q5 g1;refine(sameRan_any (fl r) (slotOf r) (r.steps:Int) xa xa' ya ya' za za' _ xc xc' _ yc yc' _ zc zc' (payL r) (outL r) (hasL r) w8 A1.out B1.out A2.out B2.out A3.out B3.out ⟨by omega,by omega,by omega⟩).mono ?_;rintro e w9 ⟨rfl,hb9⟩;have HB9:=hd' (HB8.out.trans (hb9.mono HB8.out.size));clear hb9;go_wp2_with fail;go_ret;exact⟨rfl,HB9.out⟩
 ·have HM:Hid (¬B.MayRun ps0 pn1 im2):=hm
  obtain⟨T,v,hv⟩:=Er.shape _ (progEr_shape hm);have HV:=hd' hv;clear hm hv;go_enter Tryz.func15,Tryz.ntmps15;go_wp2_with fail;refine(run_no a0 pa1 ia2 len0 cap0 pn1 pc1 im2 ic2 ps0 _ HP.out HWF.out HR.out (by omega) HM.out).mono ?_;rintro e w2 ⟨rfl,hb2⟩;rw[HV.out];have HB2:=hd' hb2;have hs2:=hb2.size;clear hb2;go_wp2_with fail;have hB3:=HB2.out.alloc hs2 (.cells #[.bool false,.int .i64 0,.slice none 0 0,.slice none 0 0,.slice none 0 0,.int .i64 0] 49);refine(fuse_no a0 len0 cap0 ps0 pn1 im2 _ (HP.out.below hB3 (lR' _)) HWF.out (HR.out.below hB3 (lR' _)) (by omega) HM.out).mono ?_;rintro e w4 ⟨rfl,hb4⟩;rw[HV.out];have HB4:=hd' (hB3.trans (hb4.mono (by simp;omega)));have hs4:=HB4.out.size;clear hB3 hb4
  go_upto_region 3 with fail
  go_region_held3 (fun _=>True) (exact trivial) ((refine(works18_any _ (HR.out.below HB4.out.drew (lR' _))).mono ?_;rintro e w5 ⟨rfl,hb5⟩;have HB45:=hd' (((Below.refl w4.heap.size w4).drew).trans (hb5.mono (lR' _)));clear hb5))
  have HB5:=hd' (HB4.out.trans (HB45.out.mono hs4));go_wp2_with fail;go_ret;exact⟨rfl,HB5.out⟩
end LawFuseSame
end Go.Proofs.YtpibampaobncaaaGreatDoor
namespace Go.Proofs.YtpibampaobncaaaGreatDoor
open Go.RowKit Go.Proofs.YtpibampaobncaaaGreatDoor.Code
namespace LawFuseOnce
attribute [local go_sem ↓] Go.wp_at_zero Go.wp_at_succ
set_option maxRecDepth 100000 in
set_option maxHeartbeats 3200000 in
theorem law(a0:Option Addr)(len0 cap0:Nat)(ps0:List B.Ins)(n1:Int)(n2:Int)(w:World)(hp0:ProgAt w a0 len0 ps0)(hwf0:∀y∈ps0,y.Wf)(hl0:len0*40≤140737488351232)(hn0:a0=none→cap0=0)(hc0:len0≤cap0)(hR:Tabs w)(hi1:B.In64 n1)(hi2:B.In64 n2):
    Calls Tryz.prog 16 #[.slice a0 len0 cap0,.int .i64 n1,.int .i64 n2] w (BoolOut true w):=by
 have _U0:=hd' hn0;have _U1:=hd' hi1;have _U2:=hd' hi2;have HP:=hd' hp0;have HWF:=hd' hwf0;have HR:=hd' hR
 have hlw:len0≤3518437208780:=by omega
 clear hp0 hwf0 hn0 hR hi1 hi2 hl0
 by_cases hm:B.MayRun ps0 n1 n2
 ·have HM:=hd' hm
  have hlen:len0≤16384:=by rw[HP.out.len];exact hm.len
  have HMQ:=hd' hm.fuse;have HFF:=hd' (B.fuse_fuse hm.ok);clear hm;go_enter Tryz.func16,Tryz.ntmps16;go_wp2_with fail;refine(fuse_yes a0 len0 cap0 hc0 ps0 n1 n2 _ HP.out HWF.out HR.out HM.out).mono ?_;rintro e w1 ⟨ao,cp,rfl,hown,hb1⟩;generalize B.fuse ps0=q at*;have HO:=hd' hown;have HB1:=hd' hb1;have hs1:=hb1.size;have hql:q.length≤16384:=HMQ.out.len
  have HQWF:Hid (∀y∈q,y.Wf):=fun y hy=>wf_right (HMQ.out.ok.mem y hy)
  clear hown hb1;go_wp2_with fail;refine(works18_any _ (HR.out.below HB1.out (lR' _))).mono ?_;rintro e w2 ⟨rfl,hb2⟩;have HB2:=hd' (HB1.out.trans (hb2.mono hs1));have HP2:Hid (ProgAt w2 ao q.length q):=HO.out.progAt.below hb2 (lR' _);have hs2:=HB2.out.size;clear hb2;go_wp2_with fail;refine(fuse_yes ao q.length cp HO.out.capLe2 q n1 n2 _ HP2.out HQWF.out (HR.out.below HB2.out (lR' _)) HMQ.out).mono ?_;rintro e w3 ⟨ao3,cp3,rfl,hown3,hb3⟩;rw[HFF.out]at hown3⊢;have HO3:=hd' hown3;have HB3:=hd' (HB2.out.trans (hb3.mono hs2));have HP3:Hid (ProgAt w3 ao q.length q):=HP2.out.below hb3 (lR' _);have hs3:=HB3.out.size;clear hown3 hb3;go_wp2_with fail;refine(program_yes ao q.length cp q n1 n2 _ HP3.out HQWF.out (HR.out.below HB3.out (lR' _)) (by omega) HMQ.out).mono ?_;rintro e w4 ⟨rfl,hb4⟩;have HB4:=hd' (HB3.out.trans (hb4.mono hs3))
  have HP4:Hid (ProgAt w4 ao q.length q):=HP3.out.below hb4 (lR' _);have HP4':Hid (ProgAt w4 ao3 q.length q):=HO3.out.progAt.below hb4 (lR' _);have hs4:=HB4.out.size;clear hb4;go_wp2_with fail;refine(sameInstrs_yes ao3 ao q.length cp3 q.length cp q _ HP4'.out HP4.out (by omega)).mono ?_;rintro e w5 ⟨rfl,hb5⟩;have HB5:=hd' (HB4.out.trans (hb5.mono hs4));clear hb5;go_wp2_with fail;go_ret;exact⟨rfl,HB5.out⟩
 ·have HM:Hid (¬B.MayRun ps0 n1 n2):=hm
  obtain⟨T,v,hv⟩:=Er.shape _ (progEr_shape hm);have HV:=hd' hv;clear hm hv;go_enter Tryz.func16,Tryz.ntmps16;go_wp2_with fail;refine(fuse_no a0 len0 cap0 ps0 n1 n2 _ HP.out HWF.out HR.out (by omega) HM.out).mono ?_;rintro e w1 ⟨rfl,hb1⟩;rw[HV.out];have HB1:=hd' hb1;have hs1:=hb1.size;clear hb1;go_wp2_with fail;refine(works18_any _ (HR.out.below HB1.out (lR' _))).mono ?_;rintro e w2 ⟨rfl,hb2⟩;have HB2:=hd' (HB1.out.trans (hb2.mono hs1));have hs2:=HB2.out.size;clear hb2;go_wp2_with fail;refine(works18_any _ (HR.out.below HB2.out (lR' _))).mono ?_;rintro e w3 ⟨rfl,hb3⟩;have HB3:=hd' (HB2.out.trans (hb3.mono hs2));clear hb3;go_wp2_with fail;go_ret;exact⟨rfl,HB3.out⟩
end LawFuseOnce
end Go.Proofs.YtpibampaobncaaaGreatDoor
