/- 'LowerPacks': of any message that may be, any payload and values: what is laid is what the document lays: the statement holds of every input. No condition beyond the card's own: the listed variables hold what the program's text lays. -/
import Derived.Test.YtljhklblbafjkaaGreatDoorFrQ
import Derived.Test.YtljhklblbafjkaaGreatDoorDoor1
import Derived.Test.YtljhklblbafjkaaGreatDoorFactLowerPacks
import Derived.Test.YtljhklblbafjkaaGreatDoorNcU
import Derived.Deep.Cut
import Derived.Deep.RegionHeld3
open Go.Lib renaming hid→hd'
open Nat renaming le_refl→lR'
namespace Go.Proofs.YtljhklblbafjkaaGreatDoor
open Go.ChangeShapes Go.WideShapes Go.ChangeAt Go.RowKit Go.Proofs.YtljhklblbafjkaaGreatDoor.Code
namespace LawLowerPacks
attribute [local go_sem ↓] Go.wp_at_zero Go.wp_at_succ
set_option maxRecDepth 100000 in
set_option maxHeartbeats 6400000 in
theorem law(m0:B.Msg)(sa0:Option Addr)(sn0 sc0:Nat)(pa1:Option Addr)(pn1 pc1:Nat)(pay1:List Nat)(ia2:Option Addr)(im2 ic2:Nat)(inp2:List Nat)(w:World)(hs0:SigsAt w sa0 sn0 m0.sigs)(hsl0:sn0≤9223372036854775807)(hm0:MsgWf m0)(hy1:ListAt w pa1 pn1 (pay1.map u8V))(hb1:B.Bytes pay1)(hyn1:pa1=none→pc1=0)(hyl1:pn1≤9223372036854775807)(hu2:ListAt w ia2 im2 (inp2.map u64V))(hw2:B.Words inp2)(hun2:ia2=none→ic2=0)(hul2:im2≤9223372036854775807)(hR:LReady w):
    Calls Tryz.prog 4 #[.agg (msgC m0 (.slice sa0 sn0 sc0)),.slice pa1 pn1 pc1,.slice ia2 im2 ic2] w (BoolOut true w):=by
 have hn:=hs0.len;have HM:=hd' hm0;have HS:=hd' hs0;have HYL:=hd' hyl1;have HUL:=hd' hul2;have HY:=hd' hy1;have HBY:=hd' hb1;have HV:=hd' hu2;have HWI:=hd' hw2;have hbox:=RC.new (msgC m0 (.slice sa0 sn0 sc0)) 27 w (n:=8) rfl rfl;have hbel:Below w.heap.size w (w.alloc (.cells (msgC m0 (.slice sa0 sn0 sc0)) 27)):=(Below.refl _ _).alloc (lR' _) _;obtain⟨w1,hw1⟩:∃w1,w.alloc (.cells (msgC m0 (.slice sa0 sn0 sc0)) 27)=w1:=⟨_,rfl⟩;rw[hw1]at hbox hbel;have HU:=hd' (hR.utf8.below hbel (lR' _));have HT:=hd' (hR.tabs.below hbel (lR' _));have HBOX:=hd' hbox;have HB:=hd' hbel;have HN:=hd' hn;have hrr1:=RC.range hbox;clear hs0 hm0 hy1 hb1 hyn1 hyl1 hu2 hw2 hun2 hul2 hR hbox hbel hn hsl0;have ff:=field_fault0;go_enter Tryz.func4,Tryz.ntmps4
 go_upto_region 1 with fail
 try rw[hw1]
 clear hw1;rcases Classical.em (m0.no.1=0)with h0 | h0
 case' inr=>
  have hun:=pack_no m0 sa0 sn0 sc0 w1 HM.out (HS.out.below HB.out (lR' _)) HU.out h0;unfold NoProg errL at hun;rw[if_neg h0]at hun;have HRM:=hd' (fun(wz:World) (hb:Below w.heap.size w wz)=>rmessage_no m0 sa0 sn0 sc0 wz HM.out (HS.out.below hb (lR' _)) h0);generalize m0.no.1=no at h0 hun HRM;generalize m0.no.2.1=nl at hun HRM;generalize m0.no.2.2=nc at hun HRM
  have e1:(no !=0)=true:=by simp[h0]
  clear h0
  go_upto_region 3 with(first
   | refine wpList_load_mid (by rfl) 27 _ (by rfl) w.heap.size 0 (by rfl) (msgC m0 (.slice sa0 sn0 sc0)).toList _ hrr1 Tryz.underlying27 (by rfl) (by kernel_rfl) ?_
   | (go_at_call 14;refine hun.mono ?_;rintro e w2 ⟨rfl,hb2⟩))
  have hrr2:=RC.range (HBOX.out.low hb2 HBOX.out.blk);have HB2:=hd' (HB.out.trans (hb2.mono HB.out.size));clear hun hb2 hrr1
  go_wp2_with (first
   | refine wpList_load_mid (by rfl) 27 _ (by rfl) w.heap.size 0 (by rfl) (msgC m0 (.slice sa0 sn0 sc0)).toList _ hrr2 Tryz.underlying27 (by rfl) (by kernel_rfl) ?_
   | (go_at_call 7;refine(HRM.out _ HB2.out).mono ?_;rintro e w3 ⟨rfl,hb3⟩))
  go_ret;exact⟨rfl,HB2.out.trans (hb3.mono HB2.out.size)⟩
 have hok:=HM.out.ok h0
 have hn64:sn0≤64:=by rw[HN.out];exact hok.count
 obtain⟨z,hz⟩:∃z:Nat,m0.size=(z:Int):=⟨m0.size.toNat,by have:=hok.size;omega⟩
 have hz8:z≤8:=by have:=hok.size;omega
 have HZ:=hd' hz;have HOK:=hd' hok;have H0:=hd' h0;have hun:=pack_yes m0 sa0 sn0 sc0 w1 HM.out (HS.out.below HB.out (lR' _)) HU.out h0;unfold LayOut at hun;have HRM:=hd' (fun(wz:World) (hb:Below w.heap.size w wz)=>rmessage_ok m0 sa0 sn0 sc0 wz HM.out (HS.out.below hb (lR' _)) h0);clear h0 hz hok
 go_upto_region 4 with(first
  | refine wpList_load_mid (by rfl) 27 _ (by rfl) w.heap.size 0 (by rfl) (msgC m0 (.slice sa0 sn0 sc0)).toList _ hrr1 Tryz.underlying27 (by rfl) (by kernel_rfl) ?_
  | (go_at_call 14;refine hun.mono ?_;rintro e w2 ⟨pga,pgc,rfl,hown2,hb2⟩))
 have HBOX2:=hd' (HBOX.out.low hb2 HBOX.out.blk);have hrr2:=RC.range HBOX2.out;have HB2:=hd' (HB.out.trans (hb2.mono HB.out.size));have HP2:=hd' hown2;have HT2:=hd' (HT.out.below hb2 (lR' _));clear hun hb2 hrr1 hown2 HBOX HT HU
 go_upto_region 6 with(first
  | refine wpList_load_mid (by rfl) 27 _ (by rfl) w.heap.size 0 (by rfl) (msgC m0 (.slice sa0 sn0 sc0)).toList _ hrr2 Tryz.underlying27 (by rfl) (by kernel_rfl) ?_
  | (go_at_call 7;refine(HRM.out _ HB2.out).mono ?_;rintro e w3 ⟨rfl,hb3⟩))
 have HBOX3:=hd' (HBOX2.out.low hb3 HBOX2.out.blk);have hrr3:=RC.range HBOX3.out;have HB3:=hd' (HB2.out.trans (hb3.mono HB2.out.size));have HP3:=hd' (HP2.out.kept hb3);have HT3:=hd' (HT2.out.below hb3 (lR' _))
 have HSZ:=hd' (fun(wz:World) (hb:Below w.heap.size w wz)=>(by
  have h:=sized_any m0 (.slice sa0 sn0 sc0) pa1 z pn1 pc1 pay1 wz (by omega) HZ.out (HY.out.below hb (lR' _)) HYL.out;rw[sizedV_pad]at h
  exact h:Calls Tryz.prog 8 #[.agg (msgC m0 (.slice sa0 sn0 sc0)),.slice pa1 pn1 pc1] wz (SizedOut z ((B.padL pay1 z).map u8V) wz)))
 have HSL:=hd' (fun(wz:World) (hb:Below w.heap.size w wz)=>(by
  have h:=slots_any m0 sa0 ia2 sn0 sc0 im2 ic2 inp2 wz hn64 (HV.out.below hb (lR' _)) HUL.out;rw[slotsV_pad]at h
  exact h:Calls Tryz.prog 10 #[.agg (msgC m0 (.slice sa0 sn0 sc0)),.slice ia2 im2 ic2] wz (SlotsOut sn0 ((B.padL inp2 sn0).map u64V) wz)))
 clear hb3 hrr2 HRM HBOX2 HB2 HP2 HT2
 go_wp2_with (first
  | refine wpList_load_mid (by rfl) 27 _ (by rfl) w.heap.size 0 (by rfl) (msgC m0 (.slice sa0 sn0 sc0)).toList _ hrr3 Tryz.underlying27 (by rfl) (by kernel_rfl) ?_
  | fail)
 refine(HSL.out _ HB3.out).mono ?_;rintro e w4 ⟨va,vc,rfl,hv4,hb4⟩;have HBOX4:=hd' (HBOX3.out.low hb4 HBOX3.out.blk);have hrr4:=RC.range HBOX4.out;have HB4:=hd' (HB3.out.trans (hb4.mono HB3.out.size));have HP4:=hd' (HP3.out.kept hb4);have HT4:=hd' (HT3.out.below hb4 (lR' _));have HV4:=hd' hv4;clear hb4 hrr3 hv4 HBOX3 HB3 HP3 HT3
 go_upto_region 7 with fail
 go_wp2_with (first
  | refine wpList_load_mid (by rfl) 27 _ (by rfl) w.heap.size 0 (by rfl) (msgC m0 (.slice sa0 sn0 sc0)).toList _ hrr4 Tryz.underlying27 (by rfl) (by kernel_rfl) ?_
  | fail)
 refine(HSZ.out _ HB4.out).mono ?_;rintro e w5 ⟨qa,qc,rfl,hq5,hb5⟩;have HBOX5:=hd' (HBOX4.out.low hb5 HBOX4.out.blk);have HB5:=hd' (HB4.out.trans (hb5.mono HB4.out.size));have HV5:=hd' (HV4.out.kept hb5);have hrl:=B.run_laid HOK.out (inp:=B.padL inp2 sn0) (pay:=B.padL pay1 z) (by rw[B.padL_len,HZ.out];rfl) (B.padL_bytes HBY.out z) m0.sigs.length;rw[show m0.size.toNat=z by rw[HZ.out];rfl]at hrl
 have hmay:B.MayRun m0.packI (z:Int) (sn0:Int):=by rw[←HZ.out,HN.out];exact HOK.out.pack_may
 have hrun:=run_uni pga qa va m0.packI.length pgc z qc sn0 vc m0.packI (B.padL pay1 z) (B.padL inp2 sn0) w5 (HP4.out.kept hb5).progAt (fun y hy=>wf_rightL (hmay.ok.mem y hy)) (HT4.out.below hb5 (lR' _)) (by have:=hmay.len;omega) hmay (ListAt.ofOwn hq5.own) (ListAt.ofOwn HV5.out.own) (B.padL_bytes HBY.out z) (B.padL_words HWI.out sn0);rw[show B.start (B.padL pay1 z) sn0=B.start (B.padL pay1 z) m0.sigs.length by rw[HN.out]]at hrun;have HWP:=hd' (B.padL_words HWI.out sn0)
 cases hla:B.laidL (B.padL inp2 sn0) (m0.muxV (B.padL inp2 sn0)) 0 m0.sigs (List.replicate z 0)with
 | error k=>
  rw[hla]at hrl;simp only at hrl;have hrun2:=hrun.mono (fun e w' (h:RunUni _ w5 e w')=>h.no hrl);generalize(B.run m0.packI (B.padL inp2 sn0) 0 (B.start (B.padL pay1 z) m0.sigs.length)).steps=st at hrun2;have HLA:=hd' hla;clear hrl hla hmay hrun hq5 hb5 hrr4 HBOX4 HB4 HV4 HP4 HT4 HSZ HSL
  go_upto_region 8 with(go_at_call 9;refine hrun2.mono ?_;rintro e w6 ⟨a1,c1,a2,c2,a3,c3,rfl,o1,o2,o3,hb6⟩)
  have hb67:Below w6.heap.size w6 (w6.alloc (.cells #[.bool true,.int .i64 (k:Int),.slice a1 0 c1,.slice a2 0 c2,.slice a3 0 c3,.int .i64 (st:Int)] 41)):=(Below.refl _ _).alloc (lR' _) _;have hbx:=RC.new #[.bool true,.int .i64 (k:Int),.slice a1 0 c1,.slice a2 0 c2,.slice a3 0 c3,.int .i64 (st:Int)] 41 w6 (n:=6) rfl rfl;obtain⟨w7,hw7⟩:∃w7,w6.alloc (.cells #[.bool true,.int .i64 (k:Int),.slice a1 0 c1,.slice a2 0 c2,.slice a3 0 c3,.int .i64 (st:Int)] 41)=w7:=⟨_,rfl⟩;rw[hw7]at hb67 hbx⊢;obtain⟨X,hX⟩:∃X,w6.heap.size=X:=⟨_,rfl⟩;have HX:=hd' (show RC w7 X 41 6 #[.bool true,.int .i64 (k:Int),.slice a1 0 c1,.slice a2 0 c2,.slice a3 0 c3,.int .i64 (st:Int)] by rw[←hX];exact hbx);rw[hX];have hb57:Below w5.heap.size w5 w7:=hb6.trans (hb67.mono hb6.size);have HBOX7:=hd' (HBOX5.out.low hb57 HBOX5.out.blk);have hrr7:=RC.range HBOX7.out
  have hrx7:=RC.range HX.out;have HB7:=hd' (HB5.out.trans (hb57.mono HB5.out.size));have HV7:=hd' ((ListAt.ofOwn HV5.out.own).below hb57 (lR' _));have hlw:=lawlaid_no m0 sa0 sn0 sc0 va vc z k (B.padL inp2 sn0) a1 a2 a3 c1 c2 c3 st w7 HOK.out (HS.out.below HB7.out (lR' _)) HZ.out.symm HV7.out HWP.out HLA.out;clear hw7 hX hbx hb67 hb57 hb6 o1 o2 o3 hrun2 HBOX5 HB5 HV5 hrr7 hrx7;have b0:w7.cell? ⟨w.heap.size,0,none⟩=some (.int .i64 m0.line):=HBOX7.out.cell (j:=0) rfl;have b1:w7.cell? ⟨w.heap.size,1,none⟩=some (.int .i64 m0.col):=HBOX7.out.cell (j:=1) rfl;have b2:w7.cell? ⟨w.heap.size,2,none⟩=some (.int .u32 m0.id):=HBOX7.out.cell (j:=2) rfl;have b3:w7.cell? ⟨w.heap.size,3,none⟩=some (.bool m0.wide):=HBOX7.out.cell (j:=3) rfl;have b4:w7.cell? ⟨w.heap.size,4,none⟩=some (.string m0.name):=HBOX7.out.cell (j:=4) rfl
  have b5:w7.cell? ⟨w.heap.size,5,none⟩=some (.int .i64 m0.size):=HBOX7.out.cell (j:=5) rfl;have b6:w7.cell? ⟨w.heap.size,6,none⟩=some (.string m0.sender):=HBOX7.out.cell (j:=6) rfl;have b7:w7.cell? ⟨w.heap.size,7,none⟩=some (.slice sa0 sn0 sc0):=HBOX7.out.cell (j:=7) rfl;have x0:w7.cell? ⟨X,0,none⟩=some (.bool true):=HX.out.cell (j:=0) rfl;have x1:w7.cell? ⟨X,1,none⟩=some (.int .i64 (k:Int)):=HX.out.cell (j:=1) rfl;have x2:w7.cell? ⟨X,2,none⟩=some (.slice a1 0 c1):=HX.out.cell (j:=2) rfl;have x3:w7.cell? ⟨X,3,none⟩=some (.slice a2 0 c2):=HX.out.cell (j:=3) rfl;have x4:w7.cell? ⟨X,4,none⟩=some (.slice a3 0 c3):=HX.out.cell (j:=4) rfl;have x5:w7.cell? ⟨X,5,none⟩=some (.int .i64 (st:Int)):=HX.out.cell (j:=5) rfl;go_wp2_with fail;refine hlw.mono ?_;rintro e w8 ⟨rfl,hb8⟩;go_wp2_with fail;go_ret;exact⟨rfl,HB7.out.trans (hb8.mono HB7.out.size)⟩
 | ok q=>
  clear hrl;obtain⟨s1,st,hr,hhas,hpay,hql,hol⟩:=B.laid_told HOK.out (inp:=B.padL inp2 sn0) (pay:=B.padL pay1 z) (q:=q) (by rw[B.padL_len,HZ.out];rfl) (B.padL_bytes HBY.out z) (by rw[show m0.size.toNat=z by rw[HZ.out];rfl];exact hla);rw[show m0.size.toNat=z by rw[HZ.out];rfl]at hql;rw[←HN.out]at hol;rw[hr]at hrun;have hrun2:=hrun.mono (fun e w' (h:RunUni _ w5 e w')=>h.ok rfl (z:=z) (n:=sn0) (k:=sn0) hql hol (by show s1.has.length=sn0;rw[hhas,List.length_replicate,HN.out]));have HHAS:=hd' hhas;have HPAY:=hd' hpay;have HQL:=hd' (show q.length=z by rw[←hpay];exact hql);have HLA:=hd' hla;clear hr hla hhas hpay hql hol hmay hrun hq5 hb5 hrr4 HBOX4 HB4 HV4 HP4 HT4 HSZ HSL
  go_upto_region 8 with(go_at_call 9;refine hrun2.mono ?_;rintro e w6 ⟨a1,c1,a2,c2,a3,c3,rfl,o1,o2,o3,hb6⟩)
  have hb67:Below w6.heap.size w6 (w6.alloc (.cells #[.bool false,.int .i64 0,.slice a1 z c1,.slice a2 sn0 c2,.slice a3 sn0 c3,.int .i64 (st:Int)] 41)):=(Below.refl _ _).alloc (lR' _) _;have hbx:=RC.new #[.bool false,.int .i64 0,.slice a1 z c1,.slice a2 sn0 c2,.slice a3 sn0 c3,.int .i64 (st:Int)] 41 w6 (n:=6) rfl rfl;obtain⟨w7,hw7⟩:∃w7,w6.alloc (.cells #[.bool false,.int .i64 0,.slice a1 z c1,.slice a2 sn0 c2,.slice a3 sn0 c3,.int .i64 (st:Int)] 41)=w7:=⟨_,rfl⟩;rw[hw7]at hb67 hbx⊢;obtain⟨X,hX⟩:∃X,w6.heap.size=X:=⟨_,rfl⟩;have HX:=hd' (show RC w7 X 41 6 #[.bool false,.int .i64 0,.slice a1 z c1,.slice a2 sn0 c2,.slice a3 sn0 c3,.int .i64 (st:Int)] by rw[←hX];exact hbx);rw[hX];have hb57:Below w5.heap.size w5 w7:=hb6.trans (hb67.mono hb6.size);have HBOX7:=hd' (HBOX5.out.low hb57 HBOX5.out.blk);have hrr7:=RC.range HBOX7.out;have hrx7:=RC.range HX.out
  have HB7:=hd' (HB5.out.trans (hb57.mono HB5.out.size));have HV7:=hd' ((ListAt.ofOwn HV5.out.own).below hb57 (lR' _));have HL1:=hd' ((ListAt.ofOwn o1.own).below hb67 (lR' _));have HL3:=hd' ((ListAt.ofOwn o3.own).below hb67 (lR' _));have hlw:=lawlaid_yes m0 sa0 sn0 sc0 va vc z (B.padL inp2 sn0) q a1 a2 a3 c1 c2 c3 st w7 HOK.out (HS.out.below HB7.out (lR' _)) HZ.out.symm HV7.out HWP.out HLA.out HQL.out (by rw[←HPAY.out];exact HL1.out) (by have h:=HL3.out;rw[show s1.has=List.replicate sn0 false by rw[HHAS.out,HN.out]]at h;exact h);clear hw7 hX hbx hb67 hb57 hb6 o1 o2 o3 hrun2 HBOX5 HB5 HV5 hrr7 hrx7;have b0:w7.cell? ⟨w.heap.size,0,none⟩=some (.int .i64 m0.line):=HBOX7.out.cell (j:=0) rfl;have b1:w7.cell? ⟨w.heap.size,1,none⟩=some (.int .i64 m0.col):=HBOX7.out.cell (j:=1) rfl;have b2:w7.cell? ⟨w.heap.size,2,none⟩=some (.int .u32 m0.id):=HBOX7.out.cell (j:=2) rfl
  have b3:w7.cell? ⟨w.heap.size,3,none⟩=some (.bool m0.wide):=HBOX7.out.cell (j:=3) rfl;have b4:w7.cell? ⟨w.heap.size,4,none⟩=some (.string m0.name):=HBOX7.out.cell (j:=4) rfl;have b5:w7.cell? ⟨w.heap.size,5,none⟩=some (.int .i64 m0.size):=HBOX7.out.cell (j:=5) rfl;have b6:w7.cell? ⟨w.heap.size,6,none⟩=some (.string m0.sender):=HBOX7.out.cell (j:=6) rfl;have b7:w7.cell? ⟨w.heap.size,7,none⟩=some (.slice sa0 sn0 sc0):=HBOX7.out.cell (j:=7) rfl;have x0:w7.cell? ⟨X,0,none⟩=some (.bool false):=HX.out.cell (j:=0) rfl;have x1:w7.cell? ⟨X,1,none⟩=some (.int .i64 0):=HX.out.cell (j:=1) rfl;have x2:w7.cell? ⟨X,2,none⟩=some (.slice a1 z c1):=HX.out.cell (j:=2) rfl;have x3:w7.cell? ⟨X,3,none⟩=some (.slice a2 sn0 c2):=HX.out.cell (j:=3) rfl;have x4:w7.cell? ⟨X,4,none⟩=some (.slice a3 sn0 c3):=HX.out.cell (j:=4) rfl;have x5:w7.cell? ⟨X,5,none⟩=some (.int .i64 (st:Int)):=HX.out.cell (j:=5) rfl
  go_wp2_with fail;refine hlw.mono ?_;rintro e w8 ⟨rfl,hb8⟩;go_wp2_with fail;go_ret;exact⟨rfl,HB7.out.trans (hb8.mono HB7.out.size)⟩
set_option maxRecDepth 100000 in
theorem lifted(os:Os)(started:os.Started)(H:Type)(enc:TypeId×Value→H):
    ReturnsInHanded {} Tryz.checked os 4 .any (fun w args=>(Rows.lowerPacksSpec.pre enc Tryz.prog Tryz.f4 Rows.lowerPacksRow.domain false w args∧laidMetH Tryz.prog laid3 w)∧sizedMet enc Tryz.prog Tryz.f4 (OpenSpec.ofChange Rows.lowerPacksSpec) false w args)
     (Rows.lowerPacksSpec.post enc Tryz.prog Tryz.f4 false true false false):=by
 refine returnsInHanded_of_change_and (C:=Tryz.checked) (X:=fun w _=>laidMetH Tryz.prog laid3 w) (fun _ _ _ hh h=>h.of_heap hh) own started (by kernel_rfl) Tryz.func4
  (ChangeSpec.witness_shaped (enc:=enc) (C:=Tryz.checked) (os:=os) (X:=fun w _=>laidMetH Tryz.prog laid3 w) false (World.laidAll Tryz.prog os laid3) #[.agg #[.int .i64 0,.int .i64 0,.int .u32 0,.bool false,.string ⟨#[]⟩,.int .i64 0,.string ⟨#[]⟩,.slice none 0 0],.slice none 0 0,.slice none 0 0] 8 (World.laidAll_os _ _ _) (World.shaped_of_ZipB (by kernel_rfl) (by kernel_rfl)) (by kernel_rfl) (by kernel_rfl) (by kernel_rfl) (door_met3 os _)) ?_
 intro W base args ds gs before hval0 hW hcnd hsz0 hL _;have hval:∀(j:Nat) t v,Tryz.f4.params[j]? =some t→args[j]? =some v→Value.okWide Tryz.prog W .any base t v:=hval0;have hsz:(DataW.weightsEach Tryz.prog (Tryz.f4.params.toList++Rows.lowerPacksSpec.plain.varTypes Tryz.prog) (ds++gs)).all (·≤reachBytes)=true:=hsz0;have hW':=hW;obtain⟨p,q,hA0,hV,rfl,hfz,hnd⟩:=hW;have hA:DataW.TrodAll enc Tryz.prog W 0 (fun _=>true) true Tryz.f4.params.toList args.toList ds p:=hA0;rw[Tryz.params4]at hA hval hsz;have hA1:=hA;obtain⟨v0,vs0,d0,ds0,p0,q0,hargs,rfl,rfl,h0,r0⟩:=trodAll_cons hA;obtain⟨v1,vs1,d1,ds1,p1,q1,rfl,rfl,rfl,h1,r1⟩:=trodAll_cons r0;obtain⟨v2,vs2,d2,ds2,p2,q2,rfl,rfl,rfl,h2,r2⟩:=trodAll_cons r1;obtain⟨rfl,rfl,rfl⟩:=trodAll_nil r2
 obtain rfl:args= #[v0,v1,v2]:=by cases args;simp_all
 obtain⟨rfl,rfl⟩:=trodVars_none hV;obtain⟨m0,sa0,sn0,sc0,rfl,hs0,hsl0,hm0⟩:=open_msg (hval 0 27 v0 rfl rfl) h0;obtain⟨pa1,pn1,pc1,rfl⟩:=okWide_slice Tryz.underlying28 (hval 1 28 v1 rfl rfl);obtain⟨fuel1,hf1⟩:=h1;obtain⟨pay1,hy1,hb1,hyn1,hyl1⟩:=open_bytes hf1;obtain⟨ia2,im2,ic2,rfl⟩:=okWide_slice Tryz.underlying29 (hval 2 29 v2 rfl rfl);obtain⟨fuel2,hf2⟩:=h2;obtain⟨inp2,hu2,hw2,hun2,hul2⟩:=open_words hf2;have lt0:=trodAll_lt _ _ _ _ hA1;clear hA0 hval0 hsz0
 refine(law m0 sa0 sn0 sc0 pa1 pn1 pc1 pay1 ia2 im2 ic2 inp2 W hs0 hsl0 hm0 hy1 hb1 hyn1 hyl1 hu2 hw2 hun2 hul2 (lready_laid3 hL)).mono fun e W' ⟨he,bel⟩=> ?_
 subst he;exact⟨_,rfl,_,_,_,[],_,[],hW',trodAll_mk1 (shut_bool Tryz.underlying4 _),below_trodAll laidOut bel _ _ _ _ (by kernel_rfl) hA1 lt0,rfl,bel.frame _,fun h=>by cases h⟩
theorem said:Rows.LowerPacksSaid:=
 OpenClaim.holds_of_wide 4 Tryz.f4 rfl rfl rfl rfl rfl rfl rfl ⟨rfl,rfl,rfl,rfl,rfl⟩ rfl rfl rfl rfl rfl found Tryz.func4 joined instanced wrapped
  (fun os started H enc _=>lifted os started H enc)
theorem plain(f:FuncId)(fn:Func)(hf:Tryz.pinned.checked.prog.funcNamed "busbar/busbarlaw15.LowerPacks" =some f)(hfn:Tryz.pinned.checked.prog.funcs[f]? =some fn):
    true=Tryz.pinned.checked.prog.looks []∧∀(j:Nat) t,fn.params[j]? =some t→Tryz.pinned.checked.prog.wantsStandIn t=false:=by
 obtain rfl:f=4:=Option.some.inj (found.symm.trans hf) |>.symm;obtain rfl:fn=Tryz.f4:=(Option.some.inj (Tryz.func4.symm.trans hfn)).symm;refine⟨by kernel_rfl,fun j t ht=> ?_⟩;rw[Tryz.params4]at ht
 have hm:t∈([27,28,29]:List TypeId):=by simpa using Array.mem_of_getElem? ht
 have hall:(([27,28,29]:List TypeId).all fun u=> !Tryz.prog.wantsStandIn u)=true:=by kernel_rfl
 exact(show Tryz.prog.wantsStandIn t=false by simpa using List.all_eq_true.1 hall t hm)
theorem card:Rows.LowerPacksCardSaid:=
 Claim7.holds_tied_plain_at .later [] _ _ _ _ said (fun _ h=>by cases h) (by kernel_rfl) (fun _ h=>by cases h) lowerPacks_row_tie rfl ⟨rfl,rfl⟩ (by kernel_rfl) rfl plain (by kernel_rfl)
#print axioms card
end LawLowerPacks
end Go.Proofs.YtljhklblbafjkaaGreatDoor
