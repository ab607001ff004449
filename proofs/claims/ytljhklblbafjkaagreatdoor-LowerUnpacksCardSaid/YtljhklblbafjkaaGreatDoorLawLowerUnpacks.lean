/- 'LowerUnpacks': of any message that may be, any payload and values: what is read is what the document reads: the statement holds of every input. No condition beyond the card's own: the listed variables hold what the program's text lays. -/
import Derived.Test.YtljhklblbafjkaaGreatDoorFrQ
import Derived.Test.YtljhklblbafjkaaGreatDoorDoor1
import Derived.Test.YtljhklblbafjkaaGreatDoorFactLowerUnpacks
import Derived.Test.YtljhklblbafjkaaGreatDoorNcU
import Derived.Deep.Cut
import Derived.Deep.RegionHeld3
open Go.Lib renaming hid→hd'
open Nat renaming le_refl→lR'
namespace Go.Proofs.YtljhklblbafjkaaGreatDoor
open Go.ChangeShapes Go.WideShapes Go.ChangeAt Go.RowKit Go.Proofs.YtljhklblbafjkaaGreatDoor.Code
namespace LawLowerUnpacks
attribute [local go_sem ↓] Go.wp_at_zero Go.wp_at_succ
set_option maxRecDepth 100000 in
set_option maxHeartbeats 6400000 in
theorem law(m0:B.Msg)(sa0:Option Addr)(sn0 sc0:Nat)(pa1:Option Addr)(pn1 pc1:Nat)(pay1:List Nat)(ia2:Option Addr)(im2 ic2:Nat)(inp2:List Nat)(w:World)(hs0:SigsAt w sa0 sn0 m0.sigs)(hsl0:sn0≤9223372036854775807)(hm0:MsgWf m0)(hy1:ListAt w pa1 pn1 (pay1.map u8V))(hb1:B.Bytes pay1)(hyn1:pa1=none→pc1=0)(hyl1:pn1≤9223372036854775807)(hu2:ListAt w ia2 im2 (inp2.map u64V))(hw2:B.Words inp2)(hun2:ia2=none→ic2=0)(hul2:im2≤9223372036854775807)(hR:LReady w):
    Calls Tryz.prog 3 #[.agg (msgC m0 (.slice sa0 sn0 sc0)),.slice pa1 pn1 pc1,.slice ia2 im2 ic2] w (BoolOut true w):=by
 have hn:=hs0.len;have HM:=hd' hm0;have HS:=hd' hs0;have HYL:=hd' hyl1;have HUL:=hd' hul2;have HY:=hd' hy1;have HBY:=hd' hb1;have HV:=hd' hu2;have HWI:=hd' hw2;have hbox:=RC.new (msgC m0 (.slice sa0 sn0 sc0)) 27 w (n:=8) rfl rfl;have hbel:Below w.heap.size w (w.alloc (.cells (msgC m0 (.slice sa0 sn0 sc0)) 27)):=(Below.refl _ _).alloc (lR' _) _;obtain⟨w1,hw1⟩:∃w1,w.alloc (.cells (msgC m0 (.slice sa0 sn0 sc0)) 27)=w1:=⟨_,rfl⟩;rw[hw1]at hbox hbel;have HU:=hd' (hR.utf8.below hbel (lR' _));have HT:=hd' (hR.tabs.below hbel (lR' _));have HBOX:=hd' hbox;have HB:=hd' hbel;have HN:=hd' hn;have hrr1:=RC.range hbox;clear hs0 hm0 hy1 hb1 hyn1 hyl1 hu2 hw2 hun2 hul2 hR hbox hbel hn hsl0;have ff:=field_fault0;go_enter Tryz.func3,Tryz.ntmps3
 go_upto_region 1 with fail
 try rw[hw1]
 clear hw1;rcases Classical.em (m0.no.1=0)with h0 | h0
 case' inr=>
  have hun:=unpack_no m0 sa0 sn0 sc0 w1 HM.out (HS.out.below HB.out (lR' _)) HU.out h0;unfold NoProg errL at hun;rw[if_neg h0]at hun;have HRM:=hd' (fun(wz:World) (hb:Below w.heap.size w wz)=>rmessage_no m0 sa0 sn0 sc0 wz HM.out (HS.out.below hb (lR' _)) h0);generalize m0.no.1=no at h0 hun HRM;generalize m0.no.2.1=nl at hun HRM;generalize m0.no.2.2=nc at hun HRM
  have e1:(no !=0)=true:=by simp[h0]
  clear h0
  go_upto_region 3 with(first
   | refine wpList_load_mid (by rfl) 27 _ (by rfl) w.heap.size 0 (by rfl) (msgC m0 (.slice sa0 sn0 sc0)).toList _ hrr1 Tryz.underlying27 (by rfl) (by kernel_rfl) ?_
   | (go_at_call 6;refine hun.mono ?_;rintro e w2 ⟨rfl,hb2⟩))
  have hrr2:=RC.range (HBOX.out.low hb2 HBOX.out.blk);have HB2:=hd' (HB.out.trans (hb2.mono HB.out.size));clear hun hb2 hrr1
  go_wp2_with (first
   | refine wpList_load_mid (by rfl) 27 _ (by rfl) w.heap.size 0 (by rfl) (msgC m0 (.slice sa0 sn0 sc0)).toList _ hrr2 Tryz.underlying27 (by rfl) (by kernel_rfl) ?_
   | (go_at_call 7;refine(HRM.out _ HB2.out).mono ?_;rintro e w3 ⟨rfl,hb3⟩))
  go_ret;exact⟨rfl,HB2.out.trans (hb3.mono HB2.out.size)⟩
 have hok:=HM.out.ok h0
 have hn64:sn0≤64:=by rw[HN.out];exact hok.count
 obtain⟨z,hz⟩:∃z:Nat,m0.size=(z:Int):=⟨m0.size.toNat,by have:=hok.size;omega⟩
 have hz8:z≤8:=by have:=hok.size;omega
 have HZ:=hd' hz;have HOK:=hd' hok;have H0:=hd' h0;have hun:=unpack_yes m0 sa0 sn0 sc0 w1 HM.out (HS.out.below HB.out (lR' _)) HU.out h0;unfold LayOut at hun;have HRM:=hd' (fun(wz:World) (hb:Below w.heap.size w wz)=>rmessage_ok m0 sa0 sn0 sc0 wz HM.out (HS.out.below hb (lR' _)) h0);clear h0 hz hok
 go_upto_region 4 with(first
  | refine wpList_load_mid (by rfl) 27 _ (by rfl) w.heap.size 0 (by rfl) (msgC m0 (.slice sa0 sn0 sc0)).toList _ hrr1 Tryz.underlying27 (by rfl) (by kernel_rfl) ?_
  | (go_at_call 6;refine hun.mono ?_;rintro e w2 ⟨pga,pgc,rfl,hown2,hb2⟩))
 have HBOX2:=hd' (HBOX.out.low hb2 HBOX.out.blk);have hrr2:=RC.range HBOX2.out;have HB2:=hd' (HB.out.trans (hb2.mono HB.out.size));have HP2:=hd' hown2;have HT2:=hd' (HT.out.below hb2 (lR' _));clear hun hb2 hrr1 hown2 HBOX HT HU
 go_upto_region 6 with(first
  | refine wpList_load_mid (by rfl) 27 _ (by rfl) w.heap.size 0 (by rfl) (msgC m0 (.slice sa0 sn0 sc0)).toList _ hrr2 Tryz.underlying27 (by rfl) (by kernel_rfl) ?_
  | (go_at_call 7;refine(HRM.out _ HB2.out).mono ?_;rintro e w3 ⟨rfl,hb3⟩))
 have HBOX3:=hd' (HBOX2.out.low hb3 HBOX2.out.blk);have hrr3:=RC.range HBOX3.out;have HB3:=hd' (HB2.out.trans (hb3.mono HB2.out.size));have HP3:=hd' (HP2.out.kept hb3);have HT3:=hd' (HT2.out.below hb3 (lR' _))
 have HSZ:=hd' (fun(wz:World) (hb:Below w.heap.size w wz)=>(by
  have h:=sized_any m0 (.slice sa0 sn0 sc0) pa1 z pn1 pc1 pay1 wz (by omega) HZ.out (HY.out.below hb (lR' _)) HYL.out;rw[sizedV_pad]at h
  exact h:Calls Tryz.prog 8 #[.agg (msgC m0 (.slice sa0 sn0 sc0)),.slice pa1 pn1 pc1] wz (SizedOut z ((B.padL pay1 z).map u8V) wz)))
 have HSL:=hd' (fun(wz:World) (hb:Below w.heap.size w wz)=>(by
  have h:=slots_any m0 sa0 ia2 sn0 sc0 im2 ic2 inp2 wz hn64 (HV.out.below hb (lR' _)) HUL.out;rw[slotsV_pad]at h
  exact h:Calls Tryz.prog 10 #[.agg (msgC m0 (.slice sa0 sn0 sc0)),.slice ia2 im2 ic2] wz (SlotsOut sn0 ((B.padL inp2 sn0).map u64V) wz)))
 clear hb3 hrr2 HRM HBOX2 HB2 HP2 HT2
 go_upto_region 7 with(first
  | refine wpList_load_mid (by rfl) 27 _ (by rfl) w.heap.size 0 (by rfl) (msgC m0 (.slice sa0 sn0 sc0)).toList _ hrr3 Tryz.underlying27 (by rfl) (by kernel_rfl) ?_
  | (go_at_call 8;refine(HSZ.out _ HB3.out).mono ?_;rintro e w4 ⟨qa,qc,rfl,hq4,hb4⟩))
 have HBOX4:=hd' (HBOX3.out.low hb4 HBOX3.out.blk);have hrr4:=RC.range HBOX4.out;have HB4:=hd' (HB3.out.trans (hb4.mono HB3.out.size));have HP4:=hd' (HP3.out.kept hb4);have HT4:=hd' (HT3.out.below hb4 (lR' _));have HQ4:=hd' hq4;clear hb4 hrr3 hq4 HBOX3 HB3 HP3 HT3
 go_wp2_with (first
  | refine wpList_load_mid (by rfl) 27 _ (by rfl) w.heap.size 0 (by rfl) (msgC m0 (.slice sa0 sn0 sc0)).toList _ hrr4 Tryz.underlying27 (by rfl) (by kernel_rfl) ?_
  | fail)
 refine(HSL.out _ HB4.out).mono ?_;rintro e w5 ⟨va,vc,rfl,hv5,hb5⟩;have HBOX5:=hd' (HBOX4.out.low hb5 HBOX4.out.blk);have HB5:=hd' (HB4.out.trans (hb5.mono HB4.out.size));have HQ5:=hd' (HQ4.out.kept hb5);obtain⟨s1,st,hr,hpay,hhas,hol,hout⟩:=B.unpack_told HOK.out (pay:=B.padL pay1 z) (by rw[B.padL_len,HZ.out];rfl) (B.padL inp2 sn0)
 have hmay:B.MayRun m0.unpackI (z:Int) (sn0:Int):=by rw[←HZ.out,HN.out];exact HOK.out.unpack_may
 have hrun:=run_uni pga qa va m0.unpackI.length pgc z qc sn0 vc m0.unpackI (B.padL pay1 z) (B.padL inp2 sn0) w5 (HP4.out.kept hb5).progAt (fun y hy=>wf_rightL (hmay.ok.mem y hy)) (HT4.out.below hb5 (lR' _)) (by have:=hmay.len;omega) hmay (ListAt.ofOwn HQ5.out.own) (ListAt.ofOwn hv5.own) (B.padL_bytes HBY.out z) (B.padL_words HWI.out sn0);rw[show B.start (B.padL pay1 z) sn0=B.start (B.padL pay1 z) m0.sigs.length by rw[HN.out],hr]at hrun;have hrun2:=hrun.mono (fun e w' (h:RunUni _ w5 e w')=>h.ok rfl (z:=z) (n:=sn0) (k:=sn0) (by show s1.pay.length=z;rw[hpay,B.padL_len]) (by show s1.out.length=sn0;rw[hol,HN.out]) (by show s1.has.length=sn0;rw[hhas,HN.out];simp[B.Msg.actives]));have HPAY:Hid (s1.pay=B.padL pay1 z):=hd' hpay;have HHAS:=hd' hhas;have HOUT:=hd' hout;have HOL:=hd' hol;clear hr hpay hhas hol hout hmay hrun hv5 hb5 hrr4 HBOX4 HB4 HQ4 HP4 HT4 HSZ HSL
 go_upto_region 8 with(go_at_call 9;refine hrun2.mono ?_;rintro e w6 ⟨a1,c1,a2,c2,a3,c3,rfl,o1,o2,o3,hb6⟩)
 have hb67:Below w6.heap.size w6 (w6.alloc (.cells #[.bool false,.int .i64 0,.slice a1 z c1,.slice a2 sn0 c2,.slice a3 sn0 c3,.int .i64 (st:Int)] 41)):=(Below.refl _ _).alloc (lR' _) _;have hbx:=RC.new #[.bool false,.int .i64 0,.slice a1 z c1,.slice a2 sn0 c2,.slice a3 sn0 c3,.int .i64 (st:Int)] 41 w6 (n:=6) rfl rfl;obtain⟨w7,hw7⟩:∃w7,w6.alloc (.cells #[.bool false,.int .i64 0,.slice a1 z c1,.slice a2 sn0 c2,.slice a3 sn0 c3,.int .i64 (st:Int)] 41)=w7:=⟨_,rfl⟩;rw[hw7]at hb67 hbx⊢;obtain⟨X,hX⟩:∃X,w6.heap.size=X:=⟨_,rfl⟩;have HX:=hd' (show RC w7 X 41 6 #[.bool false,.int .i64 0,.slice a1 z c1,.slice a2 sn0 c2,.slice a3 sn0 c3,.int .i64 (st:Int)] by rw[←hX];exact hbx);rw[hX];have hb57:Below w5.heap.size w5 w7:=hb6.trans (hb67.mono hb6.size);have HBOX7:=hd' (HBOX5.out.low hb57 HBOX5.out.blk);have hrr7:=RC.range HBOX7.out
 have HB7:=hd' (HB5.out.trans (hb57.mono HB5.out.size));have HL1:=hd' ((ListAt.ofOwn o1.own).below hb67 (lR' _));have HL2:=hd' ((ListAt.ofOwn o2.own).below hb67 (lR' _));have HL3:=hd' ((ListAt.ofOwn o3.own).below hb67 (lR' _));have HQ7:=hd' ((ListAt.ofOwn HQ5.out.own).below hb57 (lR' _));have hread:=rread_any m0 sa0 sn0 sc0 qa z qc (B.padL pay1 z) w7 HOK.out (HS.out.below HB7.out (lR' _)) HZ.out.symm HQ7.out (B.padL_bytes HBY.out z);clear hw7 hX hbx hb67 hb57 hb6 o1 o2 o3 hrun2 HBOX5 HB5 HQ5
 go_upto_region 9 with(first
  | refine wpList_load_mid (by rfl) 27 _ (by rfl) w.heap.size 0 (by rfl) (msgC m0 (.slice sa0 sn0 sc0)).toList _ hrr7 Tryz.underlying27 (by rfl) (by kernel_rfl) ?_
  | (go_at_call 11;refine hread.mono ?_;rintro e w8 ⟨a4,c4,a5,c5,rfl,o4,o5,hb8⟩))
 have HX8:=hd' (HX.out.low hb8 HX.out.blk);have HB8:=hd' (HB7.out.trans (hb8.mono HB7.out.size));have HR4:=hd' (ListAt.ofOwn o4.own);have HR5:=hd' (ListAt.ofOwn o5.own);have HL28:=hd' (HL2.out.below hb8 (lR' _));have hsb:=sameBytes_any a1 qa z c1 z qc s1.pay (B.padL pay1 z) w8 (HL1.out.below hb8 (lR' _)) (HQ7.out.below hb8 (lR' _)) (by omega);rw[decide_eq_true HPAY.out]at hsb
 have HSO:=hd' (fun(wz:World) (h:Below w8.heap.size w8 wz)=>(by
  have h2:=sameBools_any a3 a5 sn0 c3 sn0 c5 s1.has (m0.actives (m0.muxP (B.padL pay1 z))) wz ((HL3.out.below hb8 (lR' _)).below h (lR' _)) (HR5.out.below h (lR' _)) (by omega);rw[decide_eq_true HHAS.out]at h2
  exact h2:Calls Tryz.prog 13 #[.slice a3 sn0 c3,.slice a5 sn0 c5] wz (fun e w'=>e= .returned (.bool true)∧Below wz.heap.size wz w')))
 have x0:w8.cell? ⟨X,0,none⟩=some (.bool false):=HX8.out.cell (j:=0) rfl;have x2:w8.cell? ⟨X,2,none⟩=some (.slice a1 z c1):=HX8.out.cell (j:=2) rfl;clear hread hrr7 o4 o5 HX HB7 HBOX7 HL1 HL2 HL3 HQ7 hb8;go_wp2_with fail;refine hsb.mono ?_;rintro e w9 ⟨rfl,hb9⟩;have x4:w9.cell? ⟨X,4,none⟩=some (.slice a3 sn0 c3):=(HX8.out.low hb9 HX8.out.blk).cell (j:=4) rfl;clear hsb x0 x2;go_wp2_with fail;refine(HSO.out _ hb9).mono ?_;rintro e w10 ⟨rfl,hb10⟩;have hb810:Below w8.heap.size w8 w10:=hb9.trans (hb10.mono hb9.size);have HX10:=hd' (HX8.out.low hb810 HX8.out.blk);have x3:w10.cell? ⟨X,3,none⟩=some (.slice a2 sn0 c2):=HX10.out.cell (j:=3) rfl;have HB10:=hd' (HB8.out.trans (hb810.mono HB8.out.size));have HO10:=hd' (HL28.out.below hb810 (lR' _));have HR4':=hd' (HR4.out.below hb810 (lR' _));have HR5':=hd' (HR5.out.below hb810 (lR' _));clear x4 hb9 hb10 hb810 HX8 HL28 HR4 HR5 HB8 HSO
 go_wp2_with fail;clear x3
 go_loopw [14] (fun i wr=>∃k:Nat,k≤sn0∧i= .int .i64 (k:Int)∧Hid (Below w10.heap.size w10 wr)) (fun i _=>sn0-(intOf i).toNat)
 case atStart=>exact⟨0,by omega,rfl,hd' (Below.refl _ _)⟩
 case round=>
  obtain⟨k,hk,rfl,HI⟩:=hrel
  by_cases hlt:k<sn0
  ·have e1:((k:Int)<(sn0:Int))=True:=by simp;omega
   have q0:(0:Int)≤(k:Int):=by omega
   have q1:(k:Int)<sn0:=by omega
   have HBD:Hid (∀q,Below w10.heap.size w10 (wr.drewN q)):=hd' (fun q=>belowN HI.out q);obtain⟨hb,hhb⟩:∃b,(m0.actives (m0.muxP (B.padL pay1 z))).getD k false=b:=⟨_,rfl⟩
   have hx5:(m0.actives (m0.muxP (B.padL pay1 z)))[k]? =some hb:=by
    rw[←hhb,List.getD_eq_getElem?_getD,List.getElem?_eq_getElem (by have h:=HR5'.out.len;rw[List.length_map]at h;omega)];rfl
   obtain⟨b5,o5,rfl,hl5,hc5⟩:=HR5'.out.at_ k (.bool hb) (by rw[List.getElem?_map,hx5];rfl);have x5:wr.cell? ⟨b5,o5+k,none⟩=some (.bool hb):=(HI.out.cell (p:=⟨b5,o5+k,none⟩) hl5).trans hc5
   cases hb with
   | false=>
    clear hhb hx5 hl5 hc5
    go_upto_region 14 with fail
    go_quiet (fail)
    go_wp2_with fail;go_roundw
    case rel=>exact⟨k+1,by omega,by go_num,hd' (HBD.out _)⟩
    case measure=>simp[intOf];omega
   | true=>
    have heq:=HOUT.out k (by rw[←HN.out];exact hlt) hhb;obtain⟨y,hy⟩:∃y,(m0.reads (B.padL pay1 z) (m0.muxP (B.padL pay1 z))).getD k 0=y:=⟨_,rfl⟩;rw[hy]at heq
    have hx4:(m0.reads (B.padL pay1 z) (m0.muxP (B.padL pay1 z)))[k]? =some y:=by
     rw[←hy,List.getD_eq_getElem?_getD,List.getElem?_eq_getElem (by have h:=HR4'.out.len;rw[List.length_map]at h;omega)];rfl
    have hx2:s1.out[k]? =some y:=by
     rw[←heq,List.getD_eq_getElem?_getD,List.getElem?_eq_getElem (by have h:=HO10.out.len;rw[List.length_map]at h;omega)];rfl
    obtain⟨b4,o4,rfl,hl4,hc4⟩:=HR4'.out.at_ k (u64V y) (by rw[List.getElem?_map,hx4];rfl);obtain⟨b2,o2,rfl,hl2,hc2⟩:=HO10.out.at_ k (u64V y) (by rw[List.getElem?_map,hx2];rfl);unfold u64V at hc4 hc2;have x4:wr.cell? ⟨b4,o4+k,none⟩=some (.int .u64 (y:Int)):=(HI.out.cell (p:=⟨b4,o4+k,none⟩) hl4).trans hc4;have x2:wr.cell? ⟨b2,o2+k,none⟩=some (.int .u64 (y:Int)):=(HI.out.cell (p:=⟨b2,o2+k,none⟩) hl2).trans hc2;have x3:wr.cell? ⟨X,3,none⟩=some (.slice (some ⟨b2,o2,none⟩) sn0 c2):=(HX10.out.low HI.out HX10.out.blk).cell (j:=3) rfl;clear hhb hx5 hl5 hc5 heq hy hx4 hx2 hl4 hc4 hl2 hc2
    go_upto_region 14 with fail
    go_quiet (fail)
    go_wp2_with fail;go_roundw
    case rel=>exact⟨k+1,by omega,by go_num,hd' (HBD.out _)⟩
    case measure=>simp[intOf];omega
  ·obtain rfl:sn0=k:=by omega
   have e1:((sn0:Int)<(sn0:Int))=False:=by simp
   go_wp2_with fail;go_ret;exact⟨rfl,HB10.out.trans (HI.out.mono HB10.out.size)⟩
set_option maxRecDepth 100000 in
theorem lifted(os:Os)(started:os.Started)(H:Type)(enc:TypeId×Value→H):
    ReturnsInHanded {} Tryz.checked os 3 .any (fun w args=>(Rows.lowerUnpacksSpec.pre enc Tryz.prog Tryz.f3 Rows.lowerUnpacksRow.domain false w args∧laidMetH Tryz.prog laid3 w)∧sizedMet enc Tryz.prog Tryz.f3 (OpenSpec.ofChange Rows.lowerUnpacksSpec) false w args)
     (Rows.lowerUnpacksSpec.post enc Tryz.prog Tryz.f3 false true false false):=by
 refine returnsInHanded_of_change_and (C:=Tryz.checked) (X:=fun w _=>laidMetH Tryz.prog laid3 w) (fun _ _ _ hh h=>h.of_heap hh) own started (by kernel_rfl) Tryz.func3
  (ChangeSpec.witness_shaped (enc:=enc) (C:=Tryz.checked) (os:=os) (X:=fun w _=>laidMetH Tryz.prog laid3 w) false (World.laidAll Tryz.prog os laid3) #[.agg #[.int .i64 0,.int .i64 0,.int .u32 0,.bool false,.string ⟨#[]⟩,.int .i64 0,.string ⟨#[]⟩,.slice none 0 0],.slice none 0 0,.slice none 0 0] 8 (World.laidAll_os _ _ _) (World.shaped_of_ZipB (by kernel_rfl) (by kernel_rfl)) (by kernel_rfl) (by kernel_rfl) (by kernel_rfl) (door_met3 os _)) ?_
 intro W base args ds gs before hval0 hW hcnd hsz0 hL _;have hval:∀(j:Nat) t v,Tryz.f3.params[j]? =some t→args[j]? =some v→Value.okWide Tryz.prog W .any base t v:=hval0;have hsz:(DataW.weightsEach Tryz.prog (Tryz.f3.params.toList++Rows.lowerUnpacksSpec.plain.varTypes Tryz.prog) (ds++gs)).all (·≤reachBytes)=true:=hsz0;have hW':=hW;obtain⟨p,q,hA0,hV,rfl,hfz,hnd⟩:=hW;have hA:DataW.TrodAll enc Tryz.prog W 0 (fun _=>true) true Tryz.f3.params.toList args.toList ds p:=hA0;rw[Tryz.params3]at hA hval hsz;have hA1:=hA;obtain⟨v0,vs0,d0,ds0,p0,q0,hargs,rfl,rfl,h0,r0⟩:=trodAll_cons hA;obtain⟨v1,vs1,d1,ds1,p1,q1,rfl,rfl,rfl,h1,r1⟩:=trodAll_cons r0;obtain⟨v2,vs2,d2,ds2,p2,q2,rfl,rfl,rfl,h2,r2⟩:=trodAll_cons r1;obtain⟨rfl,rfl,rfl⟩:=trodAll_nil r2
 obtain rfl:args= #[v0,v1,v2]:=by cases args;simp_all
 obtain⟨rfl,rfl⟩:=trodVars_none hV;obtain⟨m0,sa0,sn0,sc0,rfl,hs0,hsl0,hm0⟩:=open_msg (hval 0 27 v0 rfl rfl) h0;obtain⟨pa1,pn1,pc1,rfl⟩:=okWide_slice Tryz.underlying28 (hval 1 28 v1 rfl rfl);obtain⟨fuel1,hf1⟩:=h1;obtain⟨pay1,hy1,hb1,hyn1,hyl1⟩:=open_bytes hf1;obtain⟨ia2,im2,ic2,rfl⟩:=okWide_slice Tryz.underlying29 (hval 2 29 v2 rfl rfl);obtain⟨fuel2,hf2⟩:=h2;obtain⟨inp2,hu2,hw2,hun2,hul2⟩:=open_words hf2;have lt0:=trodAll_lt _ _ _ _ hA1;clear hA0 hval0 hsz0
 refine(law m0 sa0 sn0 sc0 pa1 pn1 pc1 pay1 ia2 im2 ic2 inp2 W hs0 hsl0 hm0 hy1 hb1 hyn1 hyl1 hu2 hw2 hun2 hul2 (lready_laid3 hL)).mono fun e W' ⟨he,bel⟩=> ?_
 subst he;exact⟨_,rfl,_,_,_,[],_,[],hW',trodAll_mk1 (shut_bool Tryz.underlying4 _),below_trodAll laidOut bel _ _ _ _ (by kernel_rfl) hA1 lt0,rfl,bel.frame _,fun h=>by cases h⟩
theorem said:Rows.LowerUnpacksSaid:=
 OpenClaim.holds_of_wide 3 Tryz.f3 rfl rfl rfl rfl rfl rfl rfl ⟨rfl,rfl,rfl,rfl,rfl⟩ rfl rfl rfl rfl rfl found Tryz.func3 joined instanced wrapped
  (fun os started H enc _=>lifted os started H enc)
theorem plain(f:FuncId)(fn:Func)(hf:Tryz.pinned.checked.prog.funcNamed "busbar/busbarlaw15.LowerUnpacks" =some f)(hfn:Tryz.pinned.checked.prog.funcs[f]? =some fn):
    true=Tryz.pinned.checked.prog.looks []∧∀(j:Nat) t,fn.params[j]? =some t→Tryz.pinned.checked.prog.wantsStandIn t=false:=by
 obtain rfl:f=3:=Option.some.inj (found.symm.trans hf) |>.symm;obtain rfl:fn=Tryz.f3:=(Option.some.inj (Tryz.func3.symm.trans hfn)).symm;refine⟨by kernel_rfl,fun j t ht=> ?_⟩;rw[Tryz.params3]at ht
 have hm:t∈([27,28,29]:List TypeId):=by simpa using Array.mem_of_getElem? ht
 have hall:(([27,28,29]:List TypeId).all fun u=> !Tryz.prog.wantsStandIn u)=true:=by kernel_rfl
 exact(show Tryz.prog.wantsStandIn t=false by simpa using List.all_eq_true.1 hall t hm)
theorem card:Rows.LowerUnpacksCardSaid:=
 Claim7.holds_tied_plain_at .later [] _ _ _ _ said (fun _ h=>by cases h) (by kernel_rfl) (fun _ h=>by cases h) lowerUnpacks_row_tie rfl ⟨rfl,rfl⟩ (by kernel_rfl) rfl plain (by kernel_rfl)
#print axioms card
end LawLowerUnpacks
end Go.Proofs.YtljhklblbafjkaaGreatDoor
