/- busbarref18: a move's instructions. -/
import Derived.Test.YtpibampaobncaaaGreatDoorFrW
import Derived.Test.YtpibampaobncaaaGreatDoorFusQ
import Derived.Test.YtpibampaobncaaaGreatDoorFuX
import Derived.Test.YtpibampaobncaaaGreatDoorFrX
import Derived.Test.YtpibampaobncaaaGreatDoorRefW
import Derived.Test.YtpibampaobncaaaGreatDoorMoreQ
open Go.Lib renaming hid→hd'
open Nat renaming le_refl→lR'
open List renaming setIfInBounds_toArray→sA',set_cons_zero→sZ',set_cons_succ→sS'
namespace Go.Proofs.YtpibampaobncaaaGreatDoor
open Go.RowKit
namespace Code
attribute [local go_sem ↓] Go.wp_at_zero Go.wp_at_succ
set_option maxRecDepth 100000 in
set_option maxHeartbeats 3200000 in
theorem code18_in_up(m:B.Mv)(hm:m.Ok)(hi:m.inn=true)(hs:0<m.sh)(w:World):
    Calls Tryz.prog 59 #[.agg (mrF m)] w (CodeOut m.code w):=by
 have hb8:m.b≤8:=by have:=hm.be;have:=hm.e8;omega
 have he8:m.e≤8:=hm.e8;have hbe:m.b<m.e:=hm.be;have h0:=hm.sh0;have h1:=hm.sh1
 have hsh:m.way-8*(m.b:Int)=m.sh:=by unfold B.Mv.sh;rw[hi];rfl
 have hwb:m.way=m.sh+8*(m.b:Int):=by omega
 have HCD:Hid (m.code=([⟨2,m.t,m.v,0,0⟩]++[⟨6,m.t,0,m.sh,0⟩])++[⟨13,m.t,m.b,(m.e:Int)-(m.b:Int),m.bits⟩]):=by
  refine hd' ?_;unfold B.Mv.code;rw[if_pos hi];unfold B.Mv.mid;rw[if_pos hs];rfl
 obtain⟨w0,hw0⟩:∃w0,w.alloc (.cells (mrF m) 93)=w0:=⟨_,rfl⟩
 have hz0:w0.heap.size=w.heap.size+1:=by rw[←hw0];simp
 have HM0:Hid (R8 w0 w.heap.size (mrF m)):=by rw[←hw0];exact hd' (R8.new (mrF m) rfl w rfl)
 have HB0:Hid (Below w.heap.size w w0):=by rw[←hw0];exact hd' ((Below.refl _ _).alloc (lR' _) _)
 obtain⟨w1,hw1⟩:∃w1,w0.alloc (.cells #[.int .i64 2,.int .i64 m.t,.int .i64 m.v,.int .i64 0,.int .u64 0] 25)=w1:=⟨_,rfl⟩
 have HB01:Hid (Below w0.heap.size w0 w1):=by rw[←hw1];exact hd' ((Below.refl w0.heap.size w0).alloc (lR' _) _)
 have HM1:Hid (R8 w1 w.heap.size (mrF m)):=hd' (CellsAt.below HM0.out HB01.out (by omega));have HB1:Hid (Below w.heap.size w w1):=hd' (HB0.out.trans (HB01.out.mono (by omega)))
 have HO1:Hid (OwnP w1 (w.heap.size+1) (some ⟨w.heap.size+1,0,none⟩) 1 1 [⟨2,m.t,m.v,0,0⟩]):=by rw[←hw1];exact hd' (fown_one ⟨2,m.t,m.v,0,0⟩ _ _ _ (by omega) (by omega))
 have hz1:w.heap.size+1≤w1.heap.size:=by have:=HB01.out.size;omega
 have c0:w0.cell? ⟨w.heap.size,0,none⟩=some (.bool true):=by have:=CellsAt.cell HM0.out (j:=0) (by omega);rw[this];show some (Value.bool m.inn)=_;rw[hi]
 have c1:w0.cell? ⟨w.heap.size,1,none⟩=some (.int .i64 m.t):=CellsAt.cell HM0.out (j:=1) (by omega);have c2:w0.cell? ⟨w.heap.size,2,none⟩=some (.int .i64 m.v):=CellsAt.cell HM0.out (j:=2) (by omega);have c3:w0.cell? ⟨w.heap.size,3,none⟩=some (.int .i64 m.way):=CellsAt.cell HM0.out (j:=3) (by omega);have c4:w0.cell? ⟨w.heap.size,4,none⟩=some (.int .i64 m.b):=CellsAt.cell HM0.out (j:=4) (by omega);have c5:w0.cell? ⟨w.heap.size,5,none⟩=some (.int .i64 ((m.e:Int)-(m.b:Int))):=CellsAt.cell HM0.out (j:=5) (by omega);have c6:w0.cell? ⟨w.heap.size,6,none⟩=some (.int .u64 m.bits):=CellsAt.cell HM0.out (j:=6) (by omega);have k1:IntKind.i64.wrap (8*(m.b:Int))=8*(m.b:Int):=IntWalk.i64_in _ (by omega)
 have k2:IntKind.i64.wrap (m.way-8*(m.b:Int))=m.sh:=by rw[hsh];exact IntWalk.i64_in _ (by omega)
 have k3:IntKind.i64.wrap ((m.e:Int)-(m.b:Int))=(m.e:Int)-(m.b:Int):=IntWalk.i64_in _ (by omega);have k4:IntKind.i64.wrap (-m.sh)= -m.sh:=IntWalk.i64_in _ (by omega)
 have q1:decide (m.sh<0)=false:=by simp;omega
 clear hm hb8 he8 hbe h0 h1 hsh hwb;have HI:=hd' hi;clear hi;obtain⟨s,hss⟩:∃s,m.sh=s:=⟨_,rfl⟩;rw[hss]at k2 k4 HCD q1 hs;clear hss;rw[HCD.out];clear HCD
 have d0:w1.cell? ⟨w.heap.size,0,none⟩=some (.bool true):=by have:=CellsAt.cell HM1.out (j:=0) (by omega);rw[this];show some (Value.bool m.inn)=_;rw[HI.out]
 have d1:w1.cell? ⟨w.heap.size,1,none⟩=some (.int .i64 m.t):=CellsAt.cell HM1.out (j:=1) (by omega);have d2:w1.cell? ⟨w.heap.size,2,none⟩=some (.int .i64 m.v):=CellsAt.cell HM1.out (j:=2) (by omega);have d3:w1.cell? ⟨w.heap.size,3,none⟩=some (.int .i64 m.way):=CellsAt.cell HM1.out (j:=3) (by omega);have d4:w1.cell? ⟨w.heap.size,4,none⟩=some (.int .i64 m.b):=CellsAt.cell HM1.out (j:=4) (by omega);have d5:w1.cell? ⟨w.heap.size,5,none⟩=some (.int .i64 ((m.e:Int)-(m.b:Int))):=CellsAt.cell HM1.out (j:=5) (by omega);have d6:w1.cell? ⟨w.heap.size,6,none⟩=some (.int .u64 m.bits):=CellsAt.cell HM1.out (j:=6) (by omega);go_enter Tryz.func59,Tryz.ntmps59
 go_upto_region 1 with fail
 clear hw0
 go_upto_region 7 with fail
 clear hw1 c0 c1 c2 c3 c4 c5 c6
 go_upto_region 10 with(at_builtin;refine app_ins rfl _ _ rfl (w.heap.size+1) rfl HO1.out rfl (by omega) hz1 ?_;intro ao2 cp2 w2 hown2 hb2 hsz2)
 have HO2:=hd' hown2;have HB2:Hid (Below w.heap.size w w2):=hd' (HB1.out.trans (hb2.mono (by omega)));have HM2:Hid (R8 w2 w.heap.size (mrF m)):=hd' (CellsAt.below HM1.out hb2 (by omega))
 have hz2:w.heap.size+1≤w2.heap.size:=by omega
 clear hown2 hb2 d0 d1 d2 d3 d4 d5 d6 HM1 HO1 HB1
 have d0:w2.cell? ⟨w.heap.size,0,none⟩=some (.bool true):=by have:=CellsAt.cell HM2.out (j:=0) (by omega);rw[this];show some (Value.bool m.inn)=_;rw[HI.out]
 have d1:w2.cell? ⟨w.heap.size,1,none⟩=some (.int .i64 m.t):=CellsAt.cell HM2.out (j:=1) (by omega);have d2:w2.cell? ⟨w.heap.size,2,none⟩=some (.int .i64 m.v):=CellsAt.cell HM2.out (j:=2) (by omega);have d3:w2.cell? ⟨w.heap.size,3,none⟩=some (.int .i64 m.way):=CellsAt.cell HM2.out (j:=3) (by omega);have d4:w2.cell? ⟨w.heap.size,4,none⟩=some (.int .i64 m.b):=CellsAt.cell HM2.out (j:=4) (by omega);have d5:w2.cell? ⟨w.heap.size,5,none⟩=some (.int .i64 ((m.e:Int)-(m.b:Int))):=CellsAt.cell HM2.out (j:=5) (by omega);have d6:w2.cell? ⟨w.heap.size,6,none⟩=some (.int .u64 m.bits):=CellsAt.cell HM2.out (j:=6) (by omega);go_wp2_with (at_builtin;refine app_ins rfl _ _ rfl (w.heap.size+1) rfl HO2.out rfl (by omega) hz2 ?_;intro ao3 cp3 w3 hown3 hb3 hsz3);go_ret;exact CodeOut.mk hown3 (HB2.out.trans (hb3.mono (by omega)))
set_option maxRecDepth 100000 in
set_option maxHeartbeats 3200000 in
theorem code18_in_down(m:B.Mv)(hm:m.Ok)(hi:m.inn=true)(hs:m.sh<0)(w:World):
    Calls Tryz.prog 59 #[.agg (mrF m)] w (CodeOut m.code w):=by
 have hb8:m.b≤8:=by have:=hm.be;have:=hm.e8;omega
 have he8:m.e≤8:=hm.e8;have hbe:m.b<m.e:=hm.be;have h0:=hm.sh0;have h1:=hm.sh1
 have hsh:m.way-8*(m.b:Int)=m.sh:=by unfold B.Mv.sh;rw[hi];rfl
 have hwb:m.way=m.sh+8*(m.b:Int):=by omega
 have HCD:Hid (m.code=([⟨2,m.t,m.v,0,0⟩]++[⟨7,m.t,0, -m.sh,0⟩])++[⟨13,m.t,m.b,(m.e:Int)-(m.b:Int),m.bits⟩]):=by
  refine hd' ?_;unfold B.Mv.code;rw[if_pos hi];unfold B.Mv.mid;rw[if_neg (by omega),if_pos hs];rfl
 obtain⟨w0,hw0⟩:∃w0,w.alloc (.cells (mrF m) 93)=w0:=⟨_,rfl⟩
 have hz0:w0.heap.size=w.heap.size+1:=by rw[←hw0];simp
 have HM0:Hid (R8 w0 w.heap.size (mrF m)):=by rw[←hw0];exact hd' (R8.new (mrF m) rfl w rfl)
 have HB0:Hid (Below w.heap.size w w0):=by rw[←hw0];exact hd' ((Below.refl _ _).alloc (lR' _) _)
 obtain⟨w1,hw1⟩:∃w1,w0.alloc (.cells #[.int .i64 2,.int .i64 m.t,.int .i64 m.v,.int .i64 0,.int .u64 0] 25)=w1:=⟨_,rfl⟩
 have HB01:Hid (Below w0.heap.size w0 w1):=by rw[←hw1];exact hd' ((Below.refl w0.heap.size w0).alloc (lR' _) _)
 have HM1:Hid (R8 w1 w.heap.size (mrF m)):=hd' (CellsAt.below HM0.out HB01.out (by omega));have HB1:Hid (Below w.heap.size w w1):=hd' (HB0.out.trans (HB01.out.mono (by omega)))
 have HO1:Hid (OwnP w1 (w.heap.size+1) (some ⟨w.heap.size+1,0,none⟩) 1 1 [⟨2,m.t,m.v,0,0⟩]):=by rw[←hw1];exact hd' (fown_one ⟨2,m.t,m.v,0,0⟩ _ _ _ (by omega) (by omega))
 have hz1:w.heap.size+1≤w1.heap.size:=by have:=HB01.out.size;omega
 have c0:w0.cell? ⟨w.heap.size,0,none⟩=some (.bool true):=by have:=CellsAt.cell HM0.out (j:=0) (by omega);rw[this];show some (Value.bool m.inn)=_;rw[hi]
 have c1:w0.cell? ⟨w.heap.size,1,none⟩=some (.int .i64 m.t):=CellsAt.cell HM0.out (j:=1) (by omega);have c2:w0.cell? ⟨w.heap.size,2,none⟩=some (.int .i64 m.v):=CellsAt.cell HM0.out (j:=2) (by omega);have c3:w0.cell? ⟨w.heap.size,3,none⟩=some (.int .i64 m.way):=CellsAt.cell HM0.out (j:=3) (by omega);have c4:w0.cell? ⟨w.heap.size,4,none⟩=some (.int .i64 m.b):=CellsAt.cell HM0.out (j:=4) (by omega);have c5:w0.cell? ⟨w.heap.size,5,none⟩=some (.int .i64 ((m.e:Int)-(m.b:Int))):=CellsAt.cell HM0.out (j:=5) (by omega);have c6:w0.cell? ⟨w.heap.size,6,none⟩=some (.int .u64 m.bits):=CellsAt.cell HM0.out (j:=6) (by omega);have k1:IntKind.i64.wrap (8*(m.b:Int))=8*(m.b:Int):=IntWalk.i64_in _ (by omega)
 have k2:IntKind.i64.wrap (m.way-8*(m.b:Int))=m.sh:=by rw[hsh];exact IntWalk.i64_in _ (by omega)
 have k3:IntKind.i64.wrap ((m.e:Int)-(m.b:Int))=(m.e:Int)-(m.b:Int):=IntWalk.i64_in _ (by omega);have k4:IntKind.i64.wrap (-m.sh)= -m.sh:=IntWalk.i64_in _ (by omega)
 have q1:decide (0<m.sh)=false:=by simp;omega
 clear hm hb8 he8 hbe h0 h1 hsh hwb;have HI:=hd' hi;clear hi;obtain⟨s,hss⟩:∃s,m.sh=s:=⟨_,rfl⟩;rw[hss]at k2 k4 HCD q1 hs;clear hss;rw[HCD.out];clear HCD
 have d0:w1.cell? ⟨w.heap.size,0,none⟩=some (.bool true):=by have:=CellsAt.cell HM1.out (j:=0) (by omega);rw[this];show some (Value.bool m.inn)=_;rw[HI.out]
 have d1:w1.cell? ⟨w.heap.size,1,none⟩=some (.int .i64 m.t):=CellsAt.cell HM1.out (j:=1) (by omega);have d2:w1.cell? ⟨w.heap.size,2,none⟩=some (.int .i64 m.v):=CellsAt.cell HM1.out (j:=2) (by omega);have d3:w1.cell? ⟨w.heap.size,3,none⟩=some (.int .i64 m.way):=CellsAt.cell HM1.out (j:=3) (by omega);have d4:w1.cell? ⟨w.heap.size,4,none⟩=some (.int .i64 m.b):=CellsAt.cell HM1.out (j:=4) (by omega);have d5:w1.cell? ⟨w.heap.size,5,none⟩=some (.int .i64 ((m.e:Int)-(m.b:Int))):=CellsAt.cell HM1.out (j:=5) (by omega);have d6:w1.cell? ⟨w.heap.size,6,none⟩=some (.int .u64 m.bits):=CellsAt.cell HM1.out (j:=6) (by omega);go_enter Tryz.func59,Tryz.ntmps59
 go_upto_region 1 with fail
 clear hw0
 go_upto_region 9 with fail
 clear hw1 c0 c1 c2 c3 c4 c5 c6
 go_upto_region 10 with(at_builtin;refine app_ins rfl _ _ rfl (w.heap.size+1) rfl HO1.out rfl (by omega) hz1 ?_;intro ao2 cp2 w2 hown2 hb2 hsz2)
 have HO2:=hd' hown2;have HB2:Hid (Below w.heap.size w w2):=hd' (HB1.out.trans (hb2.mono (by omega)));have HM2:Hid (R8 w2 w.heap.size (mrF m)):=hd' (CellsAt.below HM1.out hb2 (by omega))
 have hz2:w.heap.size+1≤w2.heap.size:=by omega
 clear hown2 hb2 d0 d1 d2 d3 d4 d5 d6 HM1 HO1 HB1
 have d0:w2.cell? ⟨w.heap.size,0,none⟩=some (.bool true):=by have:=CellsAt.cell HM2.out (j:=0) (by omega);rw[this];show some (Value.bool m.inn)=_;rw[HI.out]
 have d1:w2.cell? ⟨w.heap.size,1,none⟩=some (.int .i64 m.t):=CellsAt.cell HM2.out (j:=1) (by omega);have d2:w2.cell? ⟨w.heap.size,2,none⟩=some (.int .i64 m.v):=CellsAt.cell HM2.out (j:=2) (by omega);have d3:w2.cell? ⟨w.heap.size,3,none⟩=some (.int .i64 m.way):=CellsAt.cell HM2.out (j:=3) (by omega);have d4:w2.cell? ⟨w.heap.size,4,none⟩=some (.int .i64 m.b):=CellsAt.cell HM2.out (j:=4) (by omega);have d5:w2.cell? ⟨w.heap.size,5,none⟩=some (.int .i64 ((m.e:Int)-(m.b:Int))):=CellsAt.cell HM2.out (j:=5) (by omega);have d6:w2.cell? ⟨w.heap.size,6,none⟩=some (.int .u64 m.bits):=CellsAt.cell HM2.out (j:=6) (by omega);go_wp2_with (at_builtin;refine app_ins rfl _ _ rfl (w.heap.size+1) rfl HO2.out rfl (by omega) hz2 ?_;intro ao3 cp3 w3 hown3 hb3 hsz3);go_ret;exact CodeOut.mk hown3 (HB2.out.trans (hb3.mono (by omega)))
set_option maxRecDepth 100000 in
set_option maxHeartbeats 3200000 in
theorem code18_in_same(m:B.Mv)(hm:m.Ok)(hi:m.inn=true)(hs:m.sh=0)(w:World):
    Calls Tryz.prog 59 #[.agg (mrF m)] w (CodeOut m.code w):=by
 have hb8:m.b≤8:=by have:=hm.be;have:=hm.e8;omega
 have he8:m.e≤8:=hm.e8;have hbe:m.b<m.e:=hm.be;have h0:=hm.sh0;have h1:=hm.sh1
 have hsh:m.way-8*(m.b:Int)=m.sh:=by unfold B.Mv.sh;rw[hi];rfl
 have hwb:m.way=m.sh+8*(m.b:Int):=by omega
 have HCD:Hid (m.code=([⟨2,m.t,m.v,0,0⟩]++[])++[⟨13,m.t,m.b,(m.e:Int)-(m.b:Int),m.bits⟩]):=by
  refine hd' ?_;unfold B.Mv.code;rw[if_pos hi];unfold B.Mv.mid;rw[if_neg (by omega),if_neg (by omega)];rfl
 obtain⟨w0,hw0⟩:∃w0,w.alloc (.cells (mrF m) 93)=w0:=⟨_,rfl⟩
 have hz0:w0.heap.size=w.heap.size+1:=by rw[←hw0];simp
 have HM0:Hid (R8 w0 w.heap.size (mrF m)):=by rw[←hw0];exact hd' (R8.new (mrF m) rfl w rfl)
 have HB0:Hid (Below w.heap.size w w0):=by rw[←hw0];exact hd' ((Below.refl _ _).alloc (lR' _) _)
 obtain⟨w1,hw1⟩:∃w1,w0.alloc (.cells #[.int .i64 2,.int .i64 m.t,.int .i64 m.v,.int .i64 0,.int .u64 0] 25)=w1:=⟨_,rfl⟩
 have HB01:Hid (Below w0.heap.size w0 w1):=by rw[←hw1];exact hd' ((Below.refl w0.heap.size w0).alloc (lR' _) _)
 have HM1:Hid (R8 w1 w.heap.size (mrF m)):=hd' (CellsAt.below HM0.out HB01.out (by omega));have HB1:Hid (Below w.heap.size w w1):=hd' (HB0.out.trans (HB01.out.mono (by omega)))
 have HO1:Hid (OwnP w1 (w.heap.size+1) (some ⟨w.heap.size+1,0,none⟩) 1 1 [⟨2,m.t,m.v,0,0⟩]):=by rw[←hw1];exact hd' (fown_one ⟨2,m.t,m.v,0,0⟩ _ _ _ (by omega) (by omega))
 have hz1:w.heap.size+1≤w1.heap.size:=by have:=HB01.out.size;omega
 have c0:w0.cell? ⟨w.heap.size,0,none⟩=some (.bool true):=by have:=CellsAt.cell HM0.out (j:=0) (by omega);rw[this];show some (Value.bool m.inn)=_;rw[hi]
 have c1:w0.cell? ⟨w.heap.size,1,none⟩=some (.int .i64 m.t):=CellsAt.cell HM0.out (j:=1) (by omega);have c2:w0.cell? ⟨w.heap.size,2,none⟩=some (.int .i64 m.v):=CellsAt.cell HM0.out (j:=2) (by omega);have c3:w0.cell? ⟨w.heap.size,3,none⟩=some (.int .i64 m.way):=CellsAt.cell HM0.out (j:=3) (by omega);have c4:w0.cell? ⟨w.heap.size,4,none⟩=some (.int .i64 m.b):=CellsAt.cell HM0.out (j:=4) (by omega);have c5:w0.cell? ⟨w.heap.size,5,none⟩=some (.int .i64 ((m.e:Int)-(m.b:Int))):=CellsAt.cell HM0.out (j:=5) (by omega);have c6:w0.cell? ⟨w.heap.size,6,none⟩=some (.int .u64 m.bits):=CellsAt.cell HM0.out (j:=6) (by omega);have k1:IntKind.i64.wrap (8*(m.b:Int))=8*(m.b:Int):=IntWalk.i64_in _ (by omega)
 have k2:IntKind.i64.wrap (m.way-8*(m.b:Int))=m.sh:=by rw[hsh];exact IntWalk.i64_in _ (by omega)
 have k3:IntKind.i64.wrap ((m.e:Int)-(m.b:Int))=(m.e:Int)-(m.b:Int):=IntWalk.i64_in _ (by omega);have k4:IntKind.i64.wrap (-m.sh)= -m.sh:=IntWalk.i64_in _ (by omega);clear hm hb8 he8 hbe h0 h1 hsh hwb;have HI:=hd' hi;clear hi;rw[hs]at k2;clear hs k4;rw[HCD.out];clear HCD
 have d0:w1.cell? ⟨w.heap.size,0,none⟩=some (.bool true):=by have:=CellsAt.cell HM1.out (j:=0) (by omega);rw[this];show some (Value.bool m.inn)=_;rw[HI.out]
 have d1:w1.cell? ⟨w.heap.size,1,none⟩=some (.int .i64 m.t):=CellsAt.cell HM1.out (j:=1) (by omega);have d2:w1.cell? ⟨w.heap.size,2,none⟩=some (.int .i64 m.v):=CellsAt.cell HM1.out (j:=2) (by omega);have d3:w1.cell? ⟨w.heap.size,3,none⟩=some (.int .i64 m.way):=CellsAt.cell HM1.out (j:=3) (by omega);have d4:w1.cell? ⟨w.heap.size,4,none⟩=some (.int .i64 m.b):=CellsAt.cell HM1.out (j:=4) (by omega);have d5:w1.cell? ⟨w.heap.size,5,none⟩=some (.int .i64 ((m.e:Int)-(m.b:Int))):=CellsAt.cell HM1.out (j:=5) (by omega);have d6:w1.cell? ⟨w.heap.size,6,none⟩=some (.int .u64 m.bits):=CellsAt.cell HM1.out (j:=6) (by omega);go_enter Tryz.func59,Tryz.ntmps59
 go_upto_region 1 with fail
 clear hw0
 go_upto_region 10 with fail
 clear hw1 c0 c1 c2 c3 c4 c5 c6;go_wp2_with (at_builtin;refine app_ins rfl _ _ rfl (w.heap.size+1) rfl HO1.out rfl (by omega) hz1 ?_;intro ao3 cp3 w3 hown3 hb3 hsz3);go_ret;exact CodeOut.mk (by simpa using hown3) (HB1.out.trans (hb3.mono (by omega)))
set_option maxRecDepth 100000 in
set_option maxHeartbeats 3200000 in
theorem code18_out_up(m:B.Mv)(hm:m.Ok)(hi:m.inn=false)(hs:0<m.sh)(w:World):
    Calls Tryz.prog 59 #[.agg (mrF m)] w (CodeOut m.code w):=by
 have hb8:m.b≤8:=by have:=hm.be;have:=hm.e8;omega
 have he8:m.e≤8:=hm.e8;have hbe:m.b<m.e:=hm.be;have h0:=hm.sh0;have h1:=hm.sh1
 have hsh:m.way+8*(m.b:Int)=m.sh:=by unfold B.Mv.sh;rw[hi];rfl
 have hwb:m.way=m.sh-8*(m.b:Int):=by omega
 have HCD:Hid (m.code=([⟨9,m.t,m.b,(m.e:Int)-(m.b:Int),0⟩,⟨8,m.t,0,0,m.bits⟩]++[⟨6,m.t,0,m.sh,0⟩])++[⟨4,m.v,m.t,0,0⟩]):=by
  refine hd' ?_;unfold B.Mv.code;rw[if_neg (by rw[hi];decide)];unfold B.Mv.mid;rw[if_pos hs];rfl
 obtain⟨w0,hw0⟩:∃w0,w.alloc (.cells (mrF m) 93)=w0:=⟨_,rfl⟩
 have hz0:w0.heap.size=w.heap.size+1:=by rw[←hw0];simp
 have HM0:Hid (R8 w0 w.heap.size (mrF m)):=by rw[←hw0];exact hd' (R8.new (mrF m) rfl w rfl)
 have HB0:Hid (Below w.heap.size w w0):=by rw[←hw0];exact hd' ((Below.refl _ _).alloc (lR' _) _)
 obtain⟨w1,hw1⟩:∃w1,(w0.alloc (.cells #[.int .i64 2,.int .i64 m.t,.int .i64 m.v,.int .i64 0,.int .u64 0] 25)).alloc (.cells #[.int .i64 9,.int .i64 m.t,.int .i64 m.b,.int .i64 ((m.e:Int)-(m.b:Int)),.int .u64 0,.int .i64 8,.int .i64 m.t,.int .i64 0,.int .i64 0,.int .u64 m.bits] 25)=w1:=⟨_,rfl⟩
 have HB01:Hid (Below w0.heap.size w0 w1):=by rw[←hw1];exact hd' (((Below.refl w0.heap.size w0).alloc (lR' _) _).alloc (by simp) _)
 have HM1:Hid (R8 w1 w.heap.size (mrF m)):=hd' (CellsAt.below HM0.out HB01.out (by omega));have HB1:Hid (Below w.heap.size w w1):=hd' (HB0.out.trans (HB01.out.mono (by omega)))
 have HO1:Hid (OwnP w1 (w.heap.size+1) (some ⟨w.heap.size+1+1,0,none⟩) 2 2 [⟨9,m.t,m.b,(m.e:Int)-(m.b:Int),0⟩,⟨8,m.t,0,0,m.bits⟩]):=by rw[←hw1];exact hd' (fown_two ⟨9,m.t,m.b,(m.e:Int)-(m.b:Int),0⟩ ⟨8,m.t,0,0,m.bits⟩ _ _ _ (by simp;omega) (by simp;omega))
 have hz1:w.heap.size+1≤w1.heap.size:=by have:=HB01.out.size;omega
 have c0:w0.cell? ⟨w.heap.size,0,none⟩=some (.bool false):=by have:=CellsAt.cell HM0.out (j:=0) (by omega);rw[this];show some (Value.bool m.inn)=_;rw[hi]
 have c1:w0.cell? ⟨w.heap.size,1,none⟩=some (.int .i64 m.t):=CellsAt.cell HM0.out (j:=1) (by omega);have c2:w0.cell? ⟨w.heap.size,2,none⟩=some (.int .i64 m.v):=CellsAt.cell HM0.out (j:=2) (by omega);have c3:w0.cell? ⟨w.heap.size,3,none⟩=some (.int .i64 m.way):=CellsAt.cell HM0.out (j:=3) (by omega);have c4:w0.cell? ⟨w.heap.size,4,none⟩=some (.int .i64 m.b):=CellsAt.cell HM0.out (j:=4) (by omega);have c5:w0.cell? ⟨w.heap.size,5,none⟩=some (.int .i64 ((m.e:Int)-(m.b:Int))):=CellsAt.cell HM0.out (j:=5) (by omega);have c6:w0.cell? ⟨w.heap.size,6,none⟩=some (.int .u64 m.bits):=CellsAt.cell HM0.out (j:=6) (by omega);have k1:IntKind.i64.wrap (8*(m.b:Int))=8*(m.b:Int):=IntWalk.i64_in _ (by omega);have k2':IntKind.i64.wrap (m.way-8*(m.b:Int))=m.way-8*(m.b:Int):=IntWalk.i64_in _ (by omega)
 have k2:IntKind.i64.wrap (m.way+8*(m.b:Int))=m.sh:=by rw[hsh];exact IntWalk.i64_in _ (by omega)
 have k3:IntKind.i64.wrap ((m.e:Int)-(m.b:Int))=(m.e:Int)-(m.b:Int):=IntWalk.i64_in _ (by omega);have k4:IntKind.i64.wrap (-m.sh)= -m.sh:=IntWalk.i64_in _ (by omega)
 have q1:decide (m.sh<0)=false:=by simp;omega
 clear hm hb8 he8 hbe h0 h1 hsh hwb;have HI:=hd' hi;clear hi;obtain⟨s,hss⟩:∃s,m.sh=s:=⟨_,rfl⟩;rw[hss]at k2 k4 HCD q1 hs;clear hss;rw[HCD.out];clear HCD
 have d0:w1.cell? ⟨w.heap.size,0,none⟩=some (.bool false):=by have:=CellsAt.cell HM1.out (j:=0) (by omega);rw[this];show some (Value.bool m.inn)=_;rw[HI.out]
 have d1:w1.cell? ⟨w.heap.size,1,none⟩=some (.int .i64 m.t):=CellsAt.cell HM1.out (j:=1) (by omega);have d2:w1.cell? ⟨w.heap.size,2,none⟩=some (.int .i64 m.v):=CellsAt.cell HM1.out (j:=2) (by omega);have d3:w1.cell? ⟨w.heap.size,3,none⟩=some (.int .i64 m.way):=CellsAt.cell HM1.out (j:=3) (by omega);have d4:w1.cell? ⟨w.heap.size,4,none⟩=some (.int .i64 m.b):=CellsAt.cell HM1.out (j:=4) (by omega);have d5:w1.cell? ⟨w.heap.size,5,none⟩=some (.int .i64 ((m.e:Int)-(m.b:Int))):=CellsAt.cell HM1.out (j:=5) (by omega);have d6:w1.cell? ⟨w.heap.size,6,none⟩=some (.int .u64 m.bits):=CellsAt.cell HM1.out (j:=6) (by omega);go_enter Tryz.func59,Tryz.ntmps59
 go_upto_region 1 with fail
 clear hw0
 go_upto_region 7 with fail
 clear hw1 c0 c1 c2 c3 c4 c5 c6
 go_upto_region 10 with(at_builtin;refine app_ins rfl _ _ rfl (w.heap.size+1) rfl HO1.out rfl (by omega) hz1 ?_;intro ao2 cp2 w2 hown2 hb2 hsz2)
 have HO2:=hd' hown2;have HB2:Hid (Below w.heap.size w w2):=hd' (HB1.out.trans (hb2.mono (by omega)));have HM2:Hid (R8 w2 w.heap.size (mrF m)):=hd' (CellsAt.below HM1.out hb2 (by omega))
 have hz2:w.heap.size+1≤w2.heap.size:=by omega
 clear hown2 hb2 d0 d1 d2 d3 d4 d5 d6 HM1 HO1 HB1
 have d0:w2.cell? ⟨w.heap.size,0,none⟩=some (.bool false):=by have:=CellsAt.cell HM2.out (j:=0) (by omega);rw[this];show some (Value.bool m.inn)=_;rw[HI.out]
 have d1:w2.cell? ⟨w.heap.size,1,none⟩=some (.int .i64 m.t):=CellsAt.cell HM2.out (j:=1) (by omega);have d2:w2.cell? ⟨w.heap.size,2,none⟩=some (.int .i64 m.v):=CellsAt.cell HM2.out (j:=2) (by omega);have d3:w2.cell? ⟨w.heap.size,3,none⟩=some (.int .i64 m.way):=CellsAt.cell HM2.out (j:=3) (by omega);have d4:w2.cell? ⟨w.heap.size,4,none⟩=some (.int .i64 m.b):=CellsAt.cell HM2.out (j:=4) (by omega);have d5:w2.cell? ⟨w.heap.size,5,none⟩=some (.int .i64 ((m.e:Int)-(m.b:Int))):=CellsAt.cell HM2.out (j:=5) (by omega);have d6:w2.cell? ⟨w.heap.size,6,none⟩=some (.int .u64 m.bits):=CellsAt.cell HM2.out (j:=6) (by omega);go_wp2_with (at_builtin;refine app_ins rfl _ _ rfl (w.heap.size+1) rfl HO2.out rfl (by omega) hz2 ?_;intro ao3 cp3 w3 hown3 hb3 hsz3);go_ret;exact CodeOut.mk hown3 (HB2.out.trans (hb3.mono (by omega)))
set_option maxRecDepth 100000 in
set_option maxHeartbeats 3200000 in
theorem code18_out_down(m:B.Mv)(hm:m.Ok)(hi:m.inn=false)(hs:m.sh<0)(w:World):
    Calls Tryz.prog 59 #[.agg (mrF m)] w (CodeOut m.code w):=by
 have hb8:m.b≤8:=by have:=hm.be;have:=hm.e8;omega
 have he8:m.e≤8:=hm.e8;have hbe:m.b<m.e:=hm.be;have h0:=hm.sh0;have h1:=hm.sh1
 have hsh:m.way+8*(m.b:Int)=m.sh:=by unfold B.Mv.sh;rw[hi];rfl
 have hwb:m.way=m.sh-8*(m.b:Int):=by omega
 have HCD:Hid (m.code=([⟨9,m.t,m.b,(m.e:Int)-(m.b:Int),0⟩,⟨8,m.t,0,0,m.bits⟩]++[⟨7,m.t,0, -m.sh,0⟩])++[⟨4,m.v,m.t,0,0⟩]):=by
  refine hd' ?_;unfold B.Mv.code;rw[if_neg (by rw[hi];decide)];unfold B.Mv.mid;rw[if_neg (by omega),if_pos hs];rfl
 obtain⟨w0,hw0⟩:∃w0,w.alloc (.cells (mrF m) 93)=w0:=⟨_,rfl⟩
 have hz0:w0.heap.size=w.heap.size+1:=by rw[←hw0];simp
 have HM0:Hid (R8 w0 w.heap.size (mrF m)):=by rw[←hw0];exact hd' (R8.new (mrF m) rfl w rfl)
 have HB0:Hid (Below w.heap.size w w0):=by rw[←hw0];exact hd' ((Below.refl _ _).alloc (lR' _) _)
 obtain⟨w1,hw1⟩:∃w1,(w0.alloc (.cells #[.int .i64 2,.int .i64 m.t,.int .i64 m.v,.int .i64 0,.int .u64 0] 25)).alloc (.cells #[.int .i64 9,.int .i64 m.t,.int .i64 m.b,.int .i64 ((m.e:Int)-(m.b:Int)),.int .u64 0,.int .i64 8,.int .i64 m.t,.int .i64 0,.int .i64 0,.int .u64 m.bits] 25)=w1:=⟨_,rfl⟩
 have HB01:Hid (Below w0.heap.size w0 w1):=by rw[←hw1];exact hd' (((Below.refl w0.heap.size w0).alloc (lR' _) _).alloc (by simp) _)
 have HM1:Hid (R8 w1 w.heap.size (mrF m)):=hd' (CellsAt.below HM0.out HB01.out (by omega));have HB1:Hid (Below w.heap.size w w1):=hd' (HB0.out.trans (HB01.out.mono (by omega)))
 have HO1:Hid (OwnP w1 (w.heap.size+1) (some ⟨w.heap.size+1+1,0,none⟩) 2 2 [⟨9,m.t,m.b,(m.e:Int)-(m.b:Int),0⟩,⟨8,m.t,0,0,m.bits⟩]):=by rw[←hw1];exact hd' (fown_two ⟨9,m.t,m.b,(m.e:Int)-(m.b:Int),0⟩ ⟨8,m.t,0,0,m.bits⟩ _ _ _ (by simp;omega) (by simp;omega))
 have hz1:w.heap.size+1≤w1.heap.size:=by have:=HB01.out.size;omega
 have c0:w0.cell? ⟨w.heap.size,0,none⟩=some (.bool false):=by have:=CellsAt.cell HM0.out (j:=0) (by omega);rw[this];show some (Value.bool m.inn)=_;rw[hi]
 have c1:w0.cell? ⟨w.heap.size,1,none⟩=some (.int .i64 m.t):=CellsAt.cell HM0.out (j:=1) (by omega);have c2:w0.cell? ⟨w.heap.size,2,none⟩=some (.int .i64 m.v):=CellsAt.cell HM0.out (j:=2) (by omega);have c3:w0.cell? ⟨w.heap.size,3,none⟩=some (.int .i64 m.way):=CellsAt.cell HM0.out (j:=3) (by omega);have c4:w0.cell? ⟨w.heap.size,4,none⟩=some (.int .i64 m.b):=CellsAt.cell HM0.out (j:=4) (by omega);have c5:w0.cell? ⟨w.heap.size,5,none⟩=some (.int .i64 ((m.e:Int)-(m.b:Int))):=CellsAt.cell HM0.out (j:=5) (by omega);have c6:w0.cell? ⟨w.heap.size,6,none⟩=some (.int .u64 m.bits):=CellsAt.cell HM0.out (j:=6) (by omega);have k1:IntKind.i64.wrap (8*(m.b:Int))=8*(m.b:Int):=IntWalk.i64_in _ (by omega);have k2':IntKind.i64.wrap (m.way-8*(m.b:Int))=m.way-8*(m.b:Int):=IntWalk.i64_in _ (by omega)
 have k2:IntKind.i64.wrap (m.way+8*(m.b:Int))=m.sh:=by rw[hsh];exact IntWalk.i64_in _ (by omega)
 have k3:IntKind.i64.wrap ((m.e:Int)-(m.b:Int))=(m.e:Int)-(m.b:Int):=IntWalk.i64_in _ (by omega);have k4:IntKind.i64.wrap (-m.sh)= -m.sh:=IntWalk.i64_in _ (by omega)
 have q1:decide (0<m.sh)=false:=by simp;omega
 clear hm hb8 he8 hbe h0 h1 hsh hwb;have HI:=hd' hi;clear hi;obtain⟨s,hss⟩:∃s,m.sh=s:=⟨_,rfl⟩;rw[hss]at k2 k4 HCD q1 hs;clear hss;rw[HCD.out];clear HCD
 have d0:w1.cell? ⟨w.heap.size,0,none⟩=some (.bool false):=by have:=CellsAt.cell HM1.out (j:=0) (by omega);rw[this];show some (Value.bool m.inn)=_;rw[HI.out]
 have d1:w1.cell? ⟨w.heap.size,1,none⟩=some (.int .i64 m.t):=CellsAt.cell HM1.out (j:=1) (by omega);have d2:w1.cell? ⟨w.heap.size,2,none⟩=some (.int .i64 m.v):=CellsAt.cell HM1.out (j:=2) (by omega);have d3:w1.cell? ⟨w.heap.size,3,none⟩=some (.int .i64 m.way):=CellsAt.cell HM1.out (j:=3) (by omega);have d4:w1.cell? ⟨w.heap.size,4,none⟩=some (.int .i64 m.b):=CellsAt.cell HM1.out (j:=4) (by omega);have d5:w1.cell? ⟨w.heap.size,5,none⟩=some (.int .i64 ((m.e:Int)-(m.b:Int))):=CellsAt.cell HM1.out (j:=5) (by omega);have d6:w1.cell? ⟨w.heap.size,6,none⟩=some (.int .u64 m.bits):=CellsAt.cell HM1.out (j:=6) (by omega);go_enter Tryz.func59,Tryz.ntmps59
 go_upto_region 1 with fail
 clear hw0
 go_upto_region 9 with fail
 clear hw1 c0 c1 c2 c3 c4 c5 c6
 go_upto_region 10 with(at_builtin;refine app_ins rfl _ _ rfl (w.heap.size+1) rfl HO1.out rfl (by omega) hz1 ?_;intro ao2 cp2 w2 hown2 hb2 hsz2)
 have HO2:=hd' hown2;have HB2:Hid (Below w.heap.size w w2):=hd' (HB1.out.trans (hb2.mono (by omega)));have HM2:Hid (R8 w2 w.heap.size (mrF m)):=hd' (CellsAt.below HM1.out hb2 (by omega))
 have hz2:w.heap.size+1≤w2.heap.size:=by omega
 clear hown2 hb2 d0 d1 d2 d3 d4 d5 d6 HM1 HO1 HB1
 have d0:w2.cell? ⟨w.heap.size,0,none⟩=some (.bool false):=by have:=CellsAt.cell HM2.out (j:=0) (by omega);rw[this];show some (Value.bool m.inn)=_;rw[HI.out]
 have d1:w2.cell? ⟨w.heap.size,1,none⟩=some (.int .i64 m.t):=CellsAt.cell HM2.out (j:=1) (by omega);have d2:w2.cell? ⟨w.heap.size,2,none⟩=some (.int .i64 m.v):=CellsAt.cell HM2.out (j:=2) (by omega);have d3:w2.cell? ⟨w.heap.size,3,none⟩=some (.int .i64 m.way):=CellsAt.cell HM2.out (j:=3) (by omega);have d4:w2.cell? ⟨w.heap.size,4,none⟩=some (.int .i64 m.b):=CellsAt.cell HM2.out (j:=4) (by omega);have d5:w2.cell? ⟨w.heap.size,5,none⟩=some (.int .i64 ((m.e:Int)-(m.b:Int))):=CellsAt.cell HM2.out (j:=5) (by omega);have d6:w2.cell? ⟨w.heap.size,6,none⟩=some (.int .u64 m.bits):=CellsAt.cell HM2.out (j:=6) (by omega);go_wp2_with (at_builtin;refine app_ins rfl _ _ rfl (w.heap.size+1) rfl HO2.out rfl (by omega) hz2 ?_;intro ao3 cp3 w3 hown3 hb3 hsz3);go_ret;exact CodeOut.mk hown3 (HB2.out.trans (hb3.mono (by omega)))
set_option maxRecDepth 100000 in
set_option maxHeartbeats 3200000 in
theorem code18_out_same(m:B.Mv)(hm:m.Ok)(hi:m.inn=false)(hs:m.sh=0)(w:World):
    Calls Tryz.prog 59 #[.agg (mrF m)] w (CodeOut m.code w):=by
 have hb8:m.b≤8:=by have:=hm.be;have:=hm.e8;omega
 have he8:m.e≤8:=hm.e8;have hbe:m.b<m.e:=hm.be;have h0:=hm.sh0;have h1:=hm.sh1
 have hsh:m.way+8*(m.b:Int)=m.sh:=by unfold B.Mv.sh;rw[hi];rfl
 have hwb:m.way=m.sh-8*(m.b:Int):=by omega
 have HCD:Hid (m.code=([⟨9,m.t,m.b,(m.e:Int)-(m.b:Int),0⟩,⟨8,m.t,0,0,m.bits⟩]++[])++[⟨4,m.v,m.t,0,0⟩]):=by
  refine hd' ?_;unfold B.Mv.code;rw[if_neg (by rw[hi];decide)];unfold B.Mv.mid;rw[if_neg (by omega),if_neg (by omega)];rfl
 obtain⟨w0,hw0⟩:∃w0,w.alloc (.cells (mrF m) 93)=w0:=⟨_,rfl⟩
 have hz0:w0.heap.size=w.heap.size+1:=by rw[←hw0];simp
 have HM0:Hid (R8 w0 w.heap.size (mrF m)):=by rw[←hw0];exact hd' (R8.new (mrF m) rfl w rfl)
 have HB0:Hid (Below w.heap.size w w0):=by rw[←hw0];exact hd' ((Below.refl _ _).alloc (lR' _) _)
 obtain⟨w1,hw1⟩:∃w1,(w0.alloc (.cells #[.int .i64 2,.int .i64 m.t,.int .i64 m.v,.int .i64 0,.int .u64 0] 25)).alloc (.cells #[.int .i64 9,.int .i64 m.t,.int .i64 m.b,.int .i64 ((m.e:Int)-(m.b:Int)),.int .u64 0,.int .i64 8,.int .i64 m.t,.int .i64 0,.int .i64 0,.int .u64 m.bits] 25)=w1:=⟨_,rfl⟩
 have HB01:Hid (Below w0.heap.size w0 w1):=by rw[←hw1];exact hd' (((Below.refl w0.heap.size w0).alloc (lR' _) _).alloc (by simp) _)
 have HM1:Hid (R8 w1 w.heap.size (mrF m)):=hd' (CellsAt.below HM0.out HB01.out (by omega));have HB1:Hid (Below w.heap.size w w1):=hd' (HB0.out.trans (HB01.out.mono (by omega)))
 have HO1:Hid (OwnP w1 (w.heap.size+1) (some ⟨w.heap.size+1+1,0,none⟩) 2 2 [⟨9,m.t,m.b,(m.e:Int)-(m.b:Int),0⟩,⟨8,m.t,0,0,m.bits⟩]):=by rw[←hw1];exact hd' (fown_two ⟨9,m.t,m.b,(m.e:Int)-(m.b:Int),0⟩ ⟨8,m.t,0,0,m.bits⟩ _ _ _ (by simp;omega) (by simp;omega))
 have hz1:w.heap.size+1≤w1.heap.size:=by have:=HB01.out.size;omega
 have c0:w0.cell? ⟨w.heap.size,0,none⟩=some (.bool false):=by have:=CellsAt.cell HM0.out (j:=0) (by omega);rw[this];show some (Value.bool m.inn)=_;rw[hi]
 have c1:w0.cell? ⟨w.heap.size,1,none⟩=some (.int .i64 m.t):=CellsAt.cell HM0.out (j:=1) (by omega);have c2:w0.cell? ⟨w.heap.size,2,none⟩=some (.int .i64 m.v):=CellsAt.cell HM0.out (j:=2) (by omega);have c3:w0.cell? ⟨w.heap.size,3,none⟩=some (.int .i64 m.way):=CellsAt.cell HM0.out (j:=3) (by omega);have c4:w0.cell? ⟨w.heap.size,4,none⟩=some (.int .i64 m.b):=CellsAt.cell HM0.out (j:=4) (by omega);have c5:w0.cell? ⟨w.heap.size,5,none⟩=some (.int .i64 ((m.e:Int)-(m.b:Int))):=CellsAt.cell HM0.out (j:=5) (by omega);have c6:w0.cell? ⟨w.heap.size,6,none⟩=some (.int .u64 m.bits):=CellsAt.cell HM0.out (j:=6) (by omega);have k1:IntKind.i64.wrap (8*(m.b:Int))=8*(m.b:Int):=IntWalk.i64_in _ (by omega);have k2':IntKind.i64.wrap (m.way-8*(m.b:Int))=m.way-8*(m.b:Int):=IntWalk.i64_in _ (by omega)
 have k2:IntKind.i64.wrap (m.way+8*(m.b:Int))=m.sh:=by rw[hsh];exact IntWalk.i64_in _ (by omega)
 have k3:IntKind.i64.wrap ((m.e:Int)-(m.b:Int))=(m.e:Int)-(m.b:Int):=IntWalk.i64_in _ (by omega);have k4:IntKind.i64.wrap (-m.sh)= -m.sh:=IntWalk.i64_in _ (by omega);clear hm hb8 he8 hbe h0 h1 hsh hwb;have HI:=hd' hi;clear hi;rw[hs]at k2;clear hs k4;rw[HCD.out];clear HCD
 have d0:w1.cell? ⟨w.heap.size,0,none⟩=some (.bool false):=by have:=CellsAt.cell HM1.out (j:=0) (by omega);rw[this];show some (Value.bool m.inn)=_;rw[HI.out]
 have d1:w1.cell? ⟨w.heap.size,1,none⟩=some (.int .i64 m.t):=CellsAt.cell HM1.out (j:=1) (by omega);have d2:w1.cell? ⟨w.heap.size,2,none⟩=some (.int .i64 m.v):=CellsAt.cell HM1.out (j:=2) (by omega);have d3:w1.cell? ⟨w.heap.size,3,none⟩=some (.int .i64 m.way):=CellsAt.cell HM1.out (j:=3) (by omega);have d4:w1.cell? ⟨w.heap.size,4,none⟩=some (.int .i64 m.b):=CellsAt.cell HM1.out (j:=4) (by omega);have d5:w1.cell? ⟨w.heap.size,5,none⟩=some (.int .i64 ((m.e:Int)-(m.b:Int))):=CellsAt.cell HM1.out (j:=5) (by omega);have d6:w1.cell? ⟨w.heap.size,6,none⟩=some (.int .u64 m.bits):=CellsAt.cell HM1.out (j:=6) (by omega);go_enter Tryz.func59,Tryz.ntmps59
 go_upto_region 1 with fail
 clear hw0
 go_upto_region 10 with fail
 clear hw1 c0 c1 c2 c3 c4 c5 c6;go_wp2_with (at_builtin;refine app_ins rfl _ _ rfl (w.heap.size+1) rfl HO1.out rfl (by omega) hz1 ?_;intro ao3 cp3 w3 hown3 hb3 hsz3);go_ret;exact CodeOut.mk (by simpa using hown3) (HB1.out.trans (hb3.mono (by omega)))
theorem code18_any(m:B.Mv)(hm:m.Ok)(w:World):Calls Tryz.prog 59 #[.agg (mrF m)] w (CodeOut m.code w):=by
 cases hi:m.inn with
 | true=>
  by_cases h1:0<m.sh
  ·exact code18_in_up m hm hi h1 w
  ·by_cases h2:m.sh<0
   ·exact code18_in_down m hm hi h2 w
   ·exact code18_in_same m hm hi (by omega) w
 | false=>
  by_cases h1:0<m.sh
  ·exact code18_out_up m hm hi h1 w
  ·by_cases h2:m.sh<0
   ·exact code18_out_down m hm hi h2 w
   ·exact code18_out_same m hm hi (by omega) w
end Code
end Go.Proofs.YtpibampaobncaaaGreatDoor
namespace Go.Proofs.YtpibampaobncaaaGreatDoor
open Go.RowKit
namespace Code
attribute [local go_sem ↓] Go.wp_at_zero Go.wp_at_succ
theorem ret8m{fn:Func}{p:Nat}(hr:fn.results= #[.cell p 93]){tmps:Array Value}{wz:World}{R:Nat}{C:Array Value}(hC:C.size=8)(hp:tmps.getD p undef= .pointer (some ⟨R,0,none⟩))(hm:R8 wz R C):
    (results fn tmps).run Tryz.prog wz= .ok (.agg C) wz:=
 results_cell hr hp (run_loadVar_mid (P:=Tryz.prog) wz R 0 93 C.toList _ (R8.range hm hC) Tryz.underlying93 rfl (by rw[infoM93];simp[hC]))
def JoOut(m:B.Mv)(w:World)(e:Ending)(w':World):Prop:=e= .returned (.agg (mrF m))∧Below w.heap.size w w'
set_option maxRecDepth 100000 in
set_option maxHeartbeats 6400000 in
theorem joined18_any(m o:B.Mv)(hm:m.Ok)(ho:o.Ok)(w:World):
    Calls Tryz.prog 60 #[.agg (mrF m),.agg (mrF o)] w (JoOut (B.joinM m o) w):=by
 have HJ:=hd' (B.join_bits hm ho)
 have hmb:m.b≤8:=by have:=hm.be;have:=hm.e8;omega
 have hob:o.b≤8:=by have:=ho.be;have:=ho.e8;omega
 have hme:=hm.e8;have hoe:=ho.e8;have hmbe:=hm.be;have hobe:=ho.be;clear hm ho;obtain⟨R0,hR0⟩:∃R,w.heap.size=R:=⟨_,rfl⟩;obtain⟨w1,hw1⟩:∃w1,((w.alloc (.cells (mrF m) 93)).alloc (.cells (mrF o) 93)).alloc (.cells mr0 93)=w1:=⟨_,rfl⟩
 have HB1:Hid (Below w.heap.size w w1):=by rw[←hw1];exact hd' ((((Below.refl _ _).alloc (lR' _) _).alloc (by simp) _).alloc (by simp;omega) _)
 have HM1:Hid (R8 w1 R0 (mrF m)):=by rw[←hw1];exact hd' (CellsAt.alloc (CellsAt.alloc (R8.new (mrF m) rfl w hR0.symm) _) _)
 have HO1:Hid (R8 w1 (R0+1) (mrF o)):=by rw[←hw1];exact hd' (CellsAt.alloc (R8.new (mrF o) rfl _ (by simp;omega)) _)
 have HR1:Hid (R8 w1 (R0+1+1) mr0):=by rw[←hw1];exact hd' (R8.new mr0 rfl _ (by simp;omega))
 have hz1:w1.heap.size=R0+1+1+1:=by rw[←hw1];simp;omega
 have HZ1:=hd' hz1;have HW1:Hid (((w.alloc (.cells #[.bool m.inn,.int .i64 m.t,.int .i64 m.v,.int .i64 m.way,.int .i64 (m.b:Int),.int .i64 ((m.e:Int)-(m.b:Int)),.int .u64 (m.bits:Int),.int .i64 (m.size:Int)] 93)).alloc (.cells #[.bool o.inn,.int .i64 o.t,.int .i64 o.v,.int .i64 o.way,.int .i64 (o.b:Int),.int .i64 ((o.e:Int)-(o.b:Int)),.int .u64 (o.bits:Int),.int .i64 (o.size:Int)] 93)).alloc (.cells #[.bool false,.int .i64 0,.int .i64 0,.int .i64 0,.int .i64 0,.int .i64 0,.int .u64 0,.int .i64 0] 93)=w1):=hd' hw1;have HR0:=hd' hR0;clear hw1 hz1 hR0;unfold mrF;go_enter Tryz.func60,Tryz.ntmps60
 go_upto_region 1 with fail
 rw[HW1.out];rw[HR0.out];clear HW1;obtain⟨c0,c1,c2,c3,c4,c5,c6,c7⟩:=R8.cells HM1.out
 go_upto_region 2 with fail
 obtain⟨w2,hw2⟩:∃w2,w1.alloc (.cells #[.bool m.inn,.int .i64 m.t,.int .i64 m.v,.int .i64 m.way,.int .i64 (m.b:Int),.int .i64 ((m.e:Int)-(m.b:Int)),.int .u64 (m.bits:Int),.int .i64 (m.size:Int)] 93)=w2:=⟨_,rfl⟩;rw[hw2];obtain⟨M5,hM5⟩:∃M,w1.heap.size=M:=⟨_,rfl⟩
 have hzM:M5=R0+1+1+1:=by have:=HZ1.out;omega
 have HM2:Hid (R8 w2 M5 (mrF m)):=hd' (by rw[←hw2];exact R8.new (mrF m) rfl w1 hM5.symm)
 have hb2:Below w1.heap.size w1 w2:=by rw[←hw2];exact(Below.refl _ _).alloc (lR' _) _
 have HA2:Hid (R8 w2 R0 (mrF m)):=hd' (CellsAt.below HM1.out hb2 (CellsAt.blk HM1.out));have HO2:Hid (R8 w2 (R0+1) (mrF o)):=hd' (CellsAt.below HO1.out hb2 (CellsAt.blk HO1.out));have HR2:Hid (R8 w2 (R0+1+1) mr0):=hd' (CellsAt.below HR1.out hb2 (CellsAt.blk HR1.out));have HB2:=hd' (HB1.out.trans (hb2.mono HB1.out.size));rw[hM5];have HNE:Hid (R0≠M5∧R0+1≠M5∧R0+1+1≠M5∧w.heap.size≤M5∧w.heap.size≤R0+1+1):=hd' (by have:=HR0.out;omega);clear c0 c1 c2 c3 c4 c5 c6 c7 hw2 hb2 hM5 hzM HM1 HO1 HR1 HZ1 HB1;have a4:w2.cell? ⟨R0,4,none⟩=some (.int .i64 (m.b:Int)):=CellsAt.cell HA2.out (j:=4) (by omega);have o4:w2.cell? ⟨R0+1,4,none⟩=some (.int .i64 (o.b:Int)):=CellsAt.cell HO2.out (j:=4) (by omega);have m4:w2.cell? ⟨M5,4,none⟩=some (.int .i64 (m.b:Int)):=CellsAt.cell HM2.out (j:=4) (by omega);have f4:=CellsAt.free HM2.out 4
 go_upto_region 3 with fail
 obtain⟨f,hf⟩:∃f:Nat,min m.b o.b=f:=⟨_,rfl⟩
 have hfm:f≤m.b:=by omega
 have hfo:f≤o.b:=by omega
 first
  | rw[show(if o.b<m.b then(o.b:Int)else(m.b:Int))=(f:Int) by split<;>omega]
  | rw[show min (m.b:Int) (o.b:Int)=(f:Int) by omega]
 have hJ:=HJ.out;rw[hf]at hJ;obtain⟨g,hg⟩:∃g:Nat,max m.e o.e=g:=⟨_,rfl⟩
 have hgm:m.e≤g:=by omega
 have hg8:g≤8:=by omega
 obtain⟨w3,hw3⟩:∃w3,w2.setCell ⟨M5,4,none⟩ (.int .i64 (f:Int))=w3:=⟨_,rfl⟩;rw[hw3];have HM3:Hid (CellsAt w3 M5 93 8 (fun j=>if j=4 then .int .i64 (f:Int)else(mrF m).getD j undef)):=hd' (by rw[←hw3];exact CellsAt.set HM2.out 4 _);have HA3:Hid (R8 w3 R0 (mrF m)):=hd' (by rw[←hw3];exact CellsAt.other HA2.out _ _ HNE.out.1);have HO3:Hid (R8 w3 (R0+1) (mrF o)):=hd' (by rw[←hw3];exact CellsAt.other HO2.out _ _ HNE.out.2.1);have HR3:Hid (R8 w3 (R0+1+1) mr0):=hd' (by rw[←hw3];exact CellsAt.other HR2.out _ _ HNE.out.2.2.1);have HB3:Hid (Below w.heap.size w w3):=hd' (by rw[←hw3];exact HB2.out.setCell HNE.out.2.2.2.1 _);clear a4 o4 m4 f4 hw3 HM2 HA2 HO2 HR2 HB2;have a4:w3.cell? ⟨R0,4,none⟩=some (.int .i64 (m.b:Int)):=CellsAt.cell HA3.out (j:=4) (by omega);have a5:w3.cell? ⟨R0,5,none⟩=some (.int .i64 ((m.e:Int)-(m.b:Int))):=CellsAt.cell HA3.out (j:=5) (by omega)
 have o4:w3.cell? ⟨R0+1,4,none⟩=some (.int .i64 (o.b:Int)):=CellsAt.cell HO3.out (j:=4) (by omega);have o5:w3.cell? ⟨R0+1,5,none⟩=some (.int .i64 ((o.e:Int)-(o.b:Int))):=CellsAt.cell HO3.out (j:=5) (by omega);have m4:w3.cell? ⟨M5,4,none⟩=some (.int .i64 (f:Int)):=CellsAt.cell HM3.out (j:=4) (by omega);have m5:w3.cell? ⟨M5,5,none⟩=some (.int .i64 ((m.e:Int)-(m.b:Int))):=CellsAt.cell HM3.out (j:=5) (by omega);have f5:=CellsAt.free HM3.out 5
 have k1:IntKind.i64.wrap ((m.b:Int)+((m.e:Int)-(m.b:Int)))=(m.e:Int):=by rw[IntWalk.i64_in _ (by omega)];omega
 have k2:IntKind.i64.wrap ((o.b:Int)+((o.e:Int)-(o.b:Int)))=(o.e:Int):=by rw[IntWalk.i64_in _ (by omega)];omega
 have k3:IntKind.i64.wrap ((g:Int)-(f:Int))=(g:Int)-(f:Int):=IntWalk.i64_in _ (by omega)
 have hig:(if m.e<o.e then(o.e:Int)else(m.e:Int))=(g:Int):=by split<;>omega
 have hih:max (m.e:Int) (o.e:Int)=(g:Int):=by omega
 go_upto_region 4 with fail
 obtain⟨w4,hw4⟩:∃w4,w3.setCell ⟨M5,5,none⟩ (.int .i64 ((g:Int)-(f:Int)))=w4:=⟨_,rfl⟩;rw[hw4];have HM4:Hid (CellsAt w4 M5 93 8 (fun j=>if j=5 then .int .i64 ((g:Int)-(f:Int))else if j=4 then .int .i64 (f:Int)else(mrF m).getD j undef)):=hd' (by rw[←hw4];exact CellsAt.set HM3.out 5 _);have HA4:Hid (R8 w4 R0 (mrF m)):=hd' (by rw[←hw4];exact CellsAt.other HA3.out _ _ HNE.out.1);have HO4:Hid (R8 w4 (R0+1) (mrF o)):=hd' (by rw[←hw4];exact CellsAt.other HO3.out _ _ HNE.out.2.1);have HR4:Hid (R8 w4 (R0+1+1) mr0):=hd' (by rw[←hw4];exact CellsAt.other HR3.out _ _ HNE.out.2.2.1);have HB4:Hid (Below w.heap.size w w4):=hd' (by rw[←hw4];exact HB3.out.setCell HNE.out.2.2.2.1 _);clear a4 a5 o4 o5 m4 m5 f5 k1 k2 k3 hig hih hw4 HM3 HA3 HO3 HR3 HB3;have a4:w4.cell? ⟨R0,4,none⟩=some (.int .i64 (m.b:Int)):=CellsAt.cell HA4.out (j:=4) (by omega)
 have a6:w4.cell? ⟨R0,6,none⟩=some (.int .u64 (m.bits:Int)):=CellsAt.cell HA4.out (j:=6) (by omega);have o4:w4.cell? ⟨R0+1,4,none⟩=some (.int .i64 (o.b:Int)):=CellsAt.cell HO4.out (j:=4) (by omega);have o6:w4.cell? ⟨R0+1,6,none⟩=some (.int .u64 (o.bits:Int)):=CellsAt.cell HO4.out (j:=6) (by omega);have m4:w4.cell? ⟨M5,4,none⟩=some (.int .i64 (f:Int)):=CellsAt.cell HM4.out (j:=4) (by omega);have m6:w4.cell? ⟨M5,6,none⟩=some (.int .u64 (m.bits:Int)):=CellsAt.cell HM4.out (j:=6) (by omega);have f6:=CellsAt.free HM4.out 6;have s1:IntKind.i64.wrap ((m.b:Int)-(f:Int))=(m.b:Int)-(f:Int):=IntWalk.i64_in _ (by omega);have s2:IntKind.i64.wrap ((o.b:Int)-(f:Int))=(o.b:Int)-(f:Int):=IntWalk.i64_in _ (by omega);have s3:IntKind.i64.wrap (8*((m.b:Int)-(f:Int)))=8*((m.b:Int)-(f:Int)):=IntWalk.i64_in _ (by omega)
 have s4:IntKind.i64.wrap (8*((o.b:Int)-(f:Int)))=8*((o.b:Int)-(f:Int)):=IntWalk.i64_in _ (by omega)
 have s5:¬8*((m.b:Int)-(f:Int))<0:=by omega
 have s6:¬8*((o.b:Int)-(f:Int))<0:=by omega
 have s7:(8*((m.b:Int)-(f:Int))).toNat=8*(m.b-f):=by omega
 have s8:(8*((o.b:Int)-(f:Int))).toNat=8*(o.b-f):=by omega
 go_still_tail 20,(by kernel_rfl)
 go_upto_region 5 with fail
 try rw[hJ]
 obtain⟨bb,hbb⟩:∃bb:Nat,(B.joinM m o).bits=bb:=⟨_,rfl⟩
 try rw[hbb]
 obtain⟨J,hJe⟩:∃J,B.joinM m o=J:=⟨_,rfl⟩
 have hJM:J= { m with b:=f,e:=g,bits:=bb}:=by rw[←hJe,←hf,←hg,←hbb];rfl
 obtain⟨w5,hw5⟩:∃w5,(w4.setCell ⟨M5,6,none⟩ (.int .u64 (bb:Int))).drew=w5:=⟨_,rfl⟩
 have HM5:Hid (R8 w5 M5 (mrF J)):=by
  rw[←hw5,hJM];refine hd' (CellsAt.congr (CellsAt.of (CellsAt.set HM4.out 6 (.int .u64 (bb:Int))) rfl) (fun j hj=> ?_))
  have:j=0∨j=1∨j=2∨j=3∨j=4∨j=5∨j=6∨j=7:=by omega
  rcases this with rfl | rfl | rfl | rfl | rfl | rfl | rfl | rfl<;>rfl
 have HR5:Hid (R8 w5 (R0+1+1) mr0):=hd' (by rw[←hw5];exact CellsAt.of (CellsAt.other HR4.out ⟨M5,6,none⟩ (.int .u64 (bb:Int)) HNE.out.2.2.1) rfl);have HB5:Hid (Below w.heap.size w w5):=hd' (by rw[←hw5];exact(HB4.out.setCell HNE.out.2.2.2.1 _).drew);rw[hw5];clear a4 a6 o4 o6 m4 m6 f6 s1 s2 s3 s4 s5 s6 s7 s8 hJ hw5 HM4 HA4 HO4 HR4 HB4 hbb hJM;have HRG:=hd' (R8.range HM5.out rfl);have HT:=hd' (CellsAt.there HR5.out (o:=0) (m:=8) (by omega));have HMN:=hd' (R8.store HR5.out (mrF J) rfl)
 have HSN:Hid (Below w.heap.size w (w5.setCells (R0+1+1) 0 (mrF J).toList)):=
  hd' (HB5.out.grown (grownBy_setCells _ _ _ _) HB5.out.size (fun k hk=>by have h1:=Option.some.inj hk;have h2:=HNE.out.2.2.2.2;omega))
 have HJJ:=hd' hJe;clear hJe hf hg;go_wp2_with ((refine wpList_load_mid (by rfl) 93 _ (by rfl) M5 0 (by rfl) (mrF J).toList _ HRG.out Tryz.underlying93 (by rfl) (by rw[infoM93];rfl) ?_);refine wpList_store_mid (by rfl) 93 _ _ (by rfl) (R0+1+1) 0 (mrF J) (by rfl) (by rfl) HT.out (by rw[infoM93];rfl) (by simp[mrF,Value.oneCell']) ?_);exact bodyPost_ret (v:=.agg (mrF J)) (ret8m (p:=4) (by kernel_rfl) rfl (by rfl) HMN.out) rfl ⟨by rw[HJJ.out],HSN.out⟩
end Code
end Go.Proofs.YtpibampaobncaaaGreatDoor
namespace Go.Proofs.YtpibampaobncaaaGreatDoor
open Go.RowKit
namespace Code
attribute [local go_sem ↓] Go.wp_at_zero Go.wp_at_succ
def PuAt(Q:List B.Ins)(ao:Option Addr)(m c:Nat)(w wr:World):Prop:=OwnP wr w.heap.size ao m c Q∧Below w.heap.size w wr
theorem fixI_yes{i L n k:Nat}{x:B.Ins}(h:x.skips=true)(h2:i+L≤k+1+x.n.toNat):B.fixI i L n k x= { x with n:=x.n-L+n}:=by unfold B.fixI;rw[if_pos ⟨h,h2⟩]
theorem fixI_no{i L n k:Nat}{x:B.Ins}(h:¬(x.skips=true∧i+L≤k+1+x.n.toNat)):B.fixI i L n k x=x:=by unfold B.fixI;rw[if_neg h]
set_option maxRecDepth 100000 in
set_option maxHeartbeats 12800000 in
theorem put18_any(a:Option Addr)(len cap:Nat)(ps:List B.Ins)(i L:Nat)(n2:Int)(al:Option Addr)(n cl:Nat)(C:List B.Ins)(w:World)(hp:ProgAt w a len ps)(hr:∀x∈ps,x.right=true)(hl:len≤16384)(hC:ProgAt w al n C)(hnl:al=none→cl=0)(hn:n≤100)(h1:1≤L)(hi:i+L≤len)(h2:n2=((i+L:Nat):Int)):
    Calls Tryz.prog 58 #[.slice a len cap,.int .i64 (i:Int),.int .i64 n2,.slice al n cl] w (CodeOut (B.put ps i L C) w):=by
 subst h2;have HP:=hd' hp;have HR:=hd' hr;have HC:=hd' hC;have HLE:=hd' hp.len;have HNC:=hd' hC.len;obtain⟨E,hE⟩:∃E:Nat,i+L=E:=⟨_,rfl⟩;have HE:=hd' hE
 have hiE:i<E:=by omega
 have hEl:E≤len:=by omega
 have e1:IntKind.i64.wrap ((E:Int)-(i:Int))=(L:Int):=by rw[IntWalk.i64_in _ (by omega)];omega
 rw[hE];clear hp hr hC hE;go_enter Tryz.func58,Tryz.ntmps58;go_wp2_with fail
 go_loopw [9,10] (fun v i' wr=>∃(k m:Nat) (ao:Option Addr) (c:Nat),i'= .int .i64 k∧k≤len∧v= .slice ao m c∧PuAt (B.putTo ps i L C k) ao m c w wr) (fun _ i' _=>len-(intOf i').toNat)
 case atStart=>exact⟨0,0,none,0,rfl,by omega,rfl,by rw[B.putTo_zero];exact OwnP.nil _ _,Below.refl _ _⟩
 case round=>
  obtain⟨k,m,ao,c,rfl,hk,rfl,hown,hb⟩:=hrel;have HOW:=hd' hown;have HB:=hd' hb;have hsz:=hb.size
  have hm:m≤k+n:=by have h1:=hown.len;have h2:= @B.putTo_len ps i L C k;have h3:=HNC.out;omega
  have k0:(0:Int)≤(k:Int):=by omega
  clear hown hb
  by_cases hlt:k<len
  ·have k1:(k:Int)<(len:Int):=by omega
   obtain⟨x,hx⟩:∃x,ps[k]? =some x:=⟨_,List.getElem?_eq_getElem (by have:=HLE.out;omega)⟩;obtain⟨b,off,rfl,hbl,hat⟩:=HP.out.at_ k x hx;have hxr:=B.right_bounds (HR.out x (List.mem_of_getElem? hx));obtain⟨N,hN⟩:∃N:Nat,x.n=N:=⟨x.n.toNat,by omega⟩
   have hN4:N≤16384:=by omega
   have HX:=hd' hx;have HN:=hd' hN;obtain⟨c0,c1,c2,c3,c4⟩:=hat.below HB.out hbl;obtain⟨o,ho⟩:∃o,x.op=o:=⟨_,rfl⟩;have HOP:=hd' ho;rw[ho]at c0;rw[hN]at c3;have w1:IntKind.i64.wrap ((k:Int)+1)=(k:Int)+1:=IntWalk.i64_in _ (by omega);have w2:IntKind.i64.wrap ((k:Int)+1+(N:Int))=(k:Int)+1+(N:Int):=IntWalk.i64_in _ (by omega);clear hx hN ho hxr hbl hat
   go_upto_region 6 with fail
   obtain⟨X,hX⟩:∃X,wr.heap.size=X:=⟨_,rfl⟩;obtain⟨w3,hw3⟩:∃w3,wr.alloc (.cells #[.int .i64 o,.int .i64 x.a,.int .i64 x.b,.int .i64 (N:Int),.int .u64 x.imm] 25)=w3:=⟨_,rfl⟩
   try rw[hw3]
   try rw[hX]
   have hblk:w3.heap[X]? =some (.cells #[.int .i64 o,.int .i64 x.a,.int .i64 x.b,.int .i64 (N:Int),.int .u64 x.imm] 25 (0,0)):=by rw[←hw3,←hX];exact heap_alloc_new wr _
   have hb3:Below wr.heap.size wr w3:=by rw[←hw3];exact(Below.refl _ _).alloc (lR' _) _
   have HOW3:=hd' (HOW.out.kept hb3);have HB3:=hd' (HB.out.trans (hb3.mono hsz))
   have hwX:w.heap.size≤X:=by omega
   have hXl:=lt_of_block hblk;have HBL:=hd' hblk
   have d0:w3.cell? ⟨X,0,none⟩=some (.int .i64 o):=by rw[cell_of_row _ _ _ _ _ _ hblk];rfl
   have d1:w3.cell? ⟨X,1,none⟩=some (.int .i64 x.a):=by rw[cell_of_row _ _ _ _ _ _ hblk];rfl
   have d2:w3.cell? ⟨X,2,none⟩=some (.int .i64 x.b):=by rw[cell_of_row _ _ _ _ _ _ hblk];rfl
   have d3:w3.cell? ⟨X,3,none⟩=some (.int .i64 (N:Int)):=by rw[cell_of_row _ _ _ _ _ _ hblk];rfl
   have d4:w3.cell? ⟨X,4,none⟩=some (.int .u64 x.imm):=by rw[cell_of_row _ _ _ _ _ _ hblk];rfl
   have f3:w3.frozen? ⟨X,3,none⟩=false:=frozen_blk hblk;have HNX:Hid (Value.ownBlock (.slice ao m c)≠some X):=hd' (fun e=>by have h:=HOW.out.own.lt X e;omega);clear c0 c1 c2 c3 c4 hw3 hX hblk hb3 HOW HB;have hsz3:=HB3.out.size
   have hop:o=18∨o=19∨((o==18)=false∧(o==19)=false):=by
    by_cases h:o=18
    ·exact .inl h
    ·by_cases h':o=19
     ·exact .inr (.inl h')
     ·exact .inr (.inr ⟨by simpa using h,by simpa using h'⟩)
   have HXE:Hid (x=⟨o,x.a,x.b,(N:Int),x.imm⟩):=hd' (by rw[←HOP.out,←HN.out]);have HSK:Hid ((o=18∨o=19)→x.skips=true):=hd' (fun h=>by unfold B.Ins.skips;rw[HOP.out];simpa using h);have HSN:Hid (((o==18)=false∧(o==19)=false)→x.skips=false):=hd' (fun h=>by unfold B.Ins.skips;rw[HOP.out];simpa using h);have HNT:Hid (x.n.toNat=N):=hd' (by rw[HN.out];rfl);clear HOP HN
   by_cases hki:k<i
   ·have r0:(k:Int)<(i:Int):=by omega
    have r1:((k:Int)==(i:Int))=false:=by simp;omega
    by_cases hh:E≤k+1+N
    ·have r2:(k:Int)+1+(N:Int)≥(E:Int):=by omega
     have e2:IntKind.i64.wrap ((N:Int)-(L:Int))=(N:Int)-(L:Int):=IntWalk.i64_in _ (by omega);have e3:IntKind.i64.wrap ((N:Int)-(L:Int)+(n:Int))=(N:Int)-(L:Int)+(n:Int):=IntWalk.i64_in _ (by omega);have HEN:Hid (i+L≤k+1+x.n.toNat):=hd' (by rw[HNT.out,HE.out];exact hh);clear hh;rcases hop with rfl | rfl | ⟨q18,q19⟩
     ·skip
      have HFX:Hid (B.fixI i L C.length k x=⟨18,x.a,x.b,(N:Int)-(L:Int)+(n:Int),x.imm⟩):=hd' (by rw[fixI_yes (HSK.out (by omega)) HEN.out,←HNC.out];have hx1:x.op=18:=congrArg B.Ins.op HXE.out;have hx2:x.n=(N:Int):=congrArg B.Ins.n HXE.out;show(⟨x.op,x.a,x.b,x.n-(L:Int)+(n:Int),x.imm⟩:B.Ins)=_;rw[hx1,hx2])
      go_upto_region 8 with fail
      obtain⟨w4,hw4⟩:∃v,w3.setCell ⟨X,3,none⟩ (.int .i64 ((N:Int)-(L:Int)+(n:Int)))=v:=⟨_,rfl⟩
      try rw[hw4]
      have hblk4:w4.heap[X]? =some (.cells #[.int .i64 18,.int .i64 x.a,.int .i64 x.b,.int .i64 ((N:Int)-(L:Int)+(n:Int)),.int .u64 x.imm] 25 (0,0)):=by rw[←hw4];exact blk_setCell (off:=3) HBL.out _
      have hg4:w3.grownBy w4 (some X):=by rw[←hw4];exact grownBy_set w3 X 3 _
      have HOW4:Hid (OwnP w4 w.heap.size ao m c (B.putTo ps i L C k)):=hd' ⟨HOW3.out.len,HOW3.out.own.kept hg4 (.inr (HNX.out))⟩;have HB4:Hid (Below w.heap.size w w4):=hd' (HB3.out.grown hg4 hsz3 (fun q hq=>by have:=Option.some.inj hq;omega));have hsz4:=HB4.out.size;clear d0 d1 d2 d3 d4 f3 hw4 hg4
      have d0:w4.cell? ⟨X,0,none⟩=some (.int .i64 18):=by rw[cell_of_row _ _ _ _ _ _ hblk4];rfl
      have d1:w4.cell? ⟨X,1,none⟩=some (.int .i64 x.a):=by rw[cell_of_row _ _ _ _ _ _ hblk4];rfl
      have d2:w4.cell? ⟨X,2,none⟩=some (.int .i64 x.b):=by rw[cell_of_row _ _ _ _ _ _ hblk4];rfl
      have d3:w4.cell? ⟨X,3,none⟩=some (.int .i64 ((N:Int)-(L:Int)+(n:Int))):=by rw[cell_of_row _ _ _ _ _ _ hblk4];rfl
      have d4:w4.cell? ⟨X,4,none⟩=some (.int .u64 x.imm):=by rw[cell_of_row _ _ _ _ _ _ hblk4];rfl
      clear hblk4
      go_upto_region 11 with fail
      go_wp2_with (at_builtin;refine app_ins rfl _ _ rfl w.heap.size rfl HOW4.out rfl (by omega) hsz4 ?_;intro ao5 c5 w5 hown5 hb5 hs5);have HO5:=hd' hown5;have HB5:=hd' (HB4.out.trans hb5);clear hown5 hb5
      try go_wp2_with fail
      go_roundw
      case rel=>exact⟨k+1,(m+1),ao5,c5,by go_num,by omega,rfl,by rw[B.putTo_lt hki HX.out,HFX.out];exact HO5.out,HB5.out⟩
      case measure=>simp[intOf];omega
     ·skip
      have HFX:Hid (B.fixI i L C.length k x=⟨19,x.a,x.b,(N:Int)-(L:Int)+(n:Int),x.imm⟩):=hd' (by rw[fixI_yes (HSK.out (by omega)) HEN.out,←HNC.out];have hx1:x.op=19:=congrArg B.Ins.op HXE.out;have hx2:x.n=(N:Int):=congrArg B.Ins.n HXE.out;show(⟨x.op,x.a,x.b,x.n-(L:Int)+(n:Int),x.imm⟩:B.Ins)=_;rw[hx1,hx2])
      go_upto_region 8 with fail
      obtain⟨w4,hw4⟩:∃v,w3.setCell ⟨X,3,none⟩ (.int .i64 ((N:Int)-(L:Int)+(n:Int)))=v:=⟨_,rfl⟩
      try rw[hw4]
      have hblk4:w4.heap[X]? =some (.cells #[.int .i64 19,.int .i64 x.a,.int .i64 x.b,.int .i64 ((N:Int)-(L:Int)+(n:Int)),.int .u64 x.imm] 25 (0,0)):=by rw[←hw4];exact blk_setCell (off:=3) HBL.out _
      have hg4:w3.grownBy w4 (some X):=by rw[←hw4];exact grownBy_set w3 X 3 _
      have HOW4:Hid (OwnP w4 w.heap.size ao m c (B.putTo ps i L C k)):=hd' ⟨HOW3.out.len,HOW3.out.own.kept hg4 (.inr (HNX.out))⟩;have HB4:Hid (Below w.heap.size w w4):=hd' (HB3.out.grown hg4 hsz3 (fun q hq=>by have:=Option.some.inj hq;omega));have hsz4:=HB4.out.size;clear d0 d1 d2 d3 d4 f3 hw4 hg4
      have d0:w4.cell? ⟨X,0,none⟩=some (.int .i64 19):=by rw[cell_of_row _ _ _ _ _ _ hblk4];rfl
      have d1:w4.cell? ⟨X,1,none⟩=some (.int .i64 x.a):=by rw[cell_of_row _ _ _ _ _ _ hblk4];rfl
      have d2:w4.cell? ⟨X,2,none⟩=some (.int .i64 x.b):=by rw[cell_of_row _ _ _ _ _ _ hblk4];rfl
      have d3:w4.cell? ⟨X,3,none⟩=some (.int .i64 ((N:Int)-(L:Int)+(n:Int))):=by rw[cell_of_row _ _ _ _ _ _ hblk4];rfl
      have d4:w4.cell? ⟨X,4,none⟩=some (.int .u64 x.imm):=by rw[cell_of_row _ _ _ _ _ _ hblk4];rfl
      clear hblk4
      go_upto_region 11 with fail
      go_wp2_with (at_builtin;refine app_ins rfl _ _ rfl w.heap.size rfl HOW4.out rfl (by omega) hsz4 ?_;intro ao5 c5 w5 hown5 hb5 hs5);have HO5:=hd' hown5;have HB5:=hd' (HB4.out.trans hb5);clear hown5 hb5
      try go_wp2_with fail
      go_roundw
      case rel=>exact⟨k+1,(m+1),ao5,c5,by go_num,by omega,rfl,by rw[B.putTo_lt hki HX.out,HFX.out];exact HO5.out,HB5.out⟩
      case measure=>simp[intOf];omega
     ·skip
      have HFX:Hid (B.fixI i L C.length k x=⟨o,x.a,x.b,(N:Int),x.imm⟩):=hd' (by rw[fixI_no (fun h=>by rw[HSN.out ⟨q18,q19⟩]at h;cases h.1)];exact HXE.out)
      go_upto_region 11 with fail
      go_wp2_with (at_builtin;refine app_ins rfl _ _ rfl w.heap.size rfl HOW3.out rfl (by omega) hsz3 ?_;intro ao5 c5 w5 hown5 hb5 hs5);have HO5:=hd' hown5;have HB5:=hd' (HB3.out.trans hb5);clear hown5 hb5
      try go_wp2_with fail
      go_roundw
      case rel=>exact⟨k+1,(m+1),ao5,c5,by go_num,by omega,rfl,by rw[B.putTo_lt hki HX.out,HFX.out];exact HO5.out,HB5.out⟩
      case measure=>simp[intOf];omega
    ·have r2:¬(k:Int)+1+(N:Int)≥(E:Int):=by omega
     have HFX:Hid (B.fixI i L C.length k x=⟨o,x.a,x.b,(N:Int),x.imm⟩):=hd' (by rw[fixI_no (fun h=>by have h2:=h.2;rw[HNT.out,HE.out]at h2;omega)];exact HXE.out);clear hh;rcases hop with rfl | rfl | ⟨q18,q19⟩
     ·skip
      go_upto_region 11 with fail
      go_wp2_with (at_builtin;refine app_ins rfl _ _ rfl w.heap.size rfl HOW3.out rfl (by omega) hsz3 ?_;intro ao5 c5 w5 hown5 hb5 hs5);have HO5:=hd' hown5;have HB5:=hd' (HB3.out.trans hb5);clear hown5 hb5
      try go_wp2_with fail
      go_roundw
      case rel=>exact⟨k+1,(m+1),ao5,c5,by go_num,by omega,rfl,by rw[B.putTo_lt hki HX.out,HFX.out];exact HO5.out,HB5.out⟩
      case measure=>simp[intOf];omega
     ·skip
      go_upto_region 11 with fail
      go_wp2_with (at_builtin;refine app_ins rfl _ _ rfl w.heap.size rfl HOW3.out rfl (by omega) hsz3 ?_;intro ao5 c5 w5 hown5 hb5 hs5);have HO5:=hd' hown5;have HB5:=hd' (HB3.out.trans hb5);clear hown5 hb5
      try go_wp2_with fail
      go_roundw
      case rel=>exact⟨k+1,(m+1),ao5,c5,by go_num,by omega,rfl,by rw[B.putTo_lt hki HX.out,HFX.out];exact HO5.out,HB5.out⟩
      case measure=>simp[intOf];omega
     ·skip
      go_upto_region 11 with fail
      go_wp2_with (at_builtin;refine app_ins rfl _ _ rfl w.heap.size rfl HOW3.out rfl (by omega) hsz3 ?_;intro ao5 c5 w5 hown5 hb5 hs5);have HO5:=hd' hown5;have HB5:=hd' (HB3.out.trans hb5);clear hown5 hb5
      try go_wp2_with fail
      go_roundw
      case rel=>exact⟨k+1,(m+1),ao5,c5,by go_num,by omega,rfl,by rw[B.putTo_lt hki HX.out,HFX.out];exact HO5.out,HB5.out⟩
      case measure=>simp[intOf];omega
   ·have r0:¬(k:Int)<(i:Int):=by omega
    by_cases hke:k=i
    ·subst hke
     have r1:((k:Int)==(k:Int))=true:=by simp
     have r3:¬(k:Int)≥(E:Int):=by omega
     have HC3:=hd' (HC.out.below HB3.out (lR' _));rcases hop with rfl | rfl | ⟨q18,q19⟩
     ·skip
      go_upto_region 10 with(at_builtin;refine app_moreG rfl _ _ rfl w.heap.size rfl HOW3.out rfl HC3.out hnl (by omega) hsz3 ?_;intro ao5 c5 w5 hown5 hg5 hb5 hs5)
      have HO5:=hd' hown5;have HB5:=hd' (HB3.out.trans hb5);clear hown5 hg5 hb5;go_wp2_with fail;go_roundw
      case rel=>exact⟨k+1,(m+n),ao5,c5,by go_num,by omega,rfl,by rw[B.putTo_at h1];exact HO5.out,HB5.out⟩
      case measure=>simp[intOf];omega
     ·skip
      go_upto_region 10 with(at_builtin;refine app_moreG rfl _ _ rfl w.heap.size rfl HOW3.out rfl HC3.out hnl (by omega) hsz3 ?_;intro ao5 c5 w5 hown5 hg5 hb5 hs5)
      have HO5:=hd' hown5;have HB5:=hd' (HB3.out.trans hb5);clear hown5 hg5 hb5;go_wp2_with fail;go_roundw
      case rel=>exact⟨k+1,(m+n),ao5,c5,by go_num,by omega,rfl,by rw[B.putTo_at h1];exact HO5.out,HB5.out⟩
      case measure=>simp[intOf];omega
     ·skip
      go_upto_region 10 with(at_builtin;refine app_moreG rfl _ _ rfl w.heap.size rfl HOW3.out rfl HC3.out hnl (by omega) hsz3 ?_;intro ao5 c5 w5 hown5 hg5 hb5 hs5)
      have HO5:=hd' hown5;have HB5:=hd' (HB3.out.trans hb5);clear hown5 hg5 hb5;go_wp2_with fail;go_roundw
      case rel=>exact⟨k+1,(m+n),ao5,c5,by go_num,by omega,rfl,by rw[B.putTo_at h1];exact HO5.out,HB5.out⟩
      case measure=>simp[intOf];omega
    ·have r1:((k:Int)==(i:Int))=false:=by simp;omega
     by_cases hkE:k<E
     ·have r3:¬(k:Int)≥(E:Int):=by omega
      rcases hop with rfl | rfl | ⟨q18,q19⟩
      ·skip
       go_wp2_with fail;go_roundw
       case rel=>exact⟨k+1,m,ao,c,by go_num,by omega,rfl,by rw[B.putTo_mid (by omega) (by have:=HE.out;omega)];exact HOW3.out,HB3.out⟩
       case measure=>simp[intOf];omega
      ·skip
       go_wp2_with fail;go_roundw
       case rel=>exact⟨k+1,m,ao,c,by go_num,by omega,rfl,by rw[B.putTo_mid (by omega) (by have:=HE.out;omega)];exact HOW3.out,HB3.out⟩
       case measure=>simp[intOf];omega
      ·skip
       go_wp2_with fail;go_roundw
       case rel=>exact⟨k+1,m,ao,c,by go_num,by omega,rfl,by rw[B.putTo_mid (by omega) (by have:=HE.out;omega)];exact HOW3.out,HB3.out⟩
       case measure=>simp[intOf];omega
     ·have r3:(k:Int)≥(E:Int):=by omega
      rcases hop with rfl | rfl | ⟨q18,q19⟩
      ·skip
       go_upto_region 11 with fail
       go_wp2_with (at_builtin;refine app_ins rfl _ _ rfl w.heap.size rfl HOW3.out rfl (by omega) hsz3 ?_;intro ao5 c5 w5 hown5 hb5 hs5);have HO5:=hd' hown5;have HB5:=hd' (HB3.out.trans hb5);clear hown5 hb5
       try go_wp2_with fail
       go_roundw
       case rel=>exact⟨k+1,(m+1),ao5,c5,by go_num,by omega,rfl,by rw[B.putTo_ge h1 (by have:=HE.out;omega) HX.out];have h:=HXE.out;rw[h];exact HO5.out,HB5.out⟩
       case measure=>simp[intOf];omega
      ·skip
       go_upto_region 11 with fail
       go_wp2_with (at_builtin;refine app_ins rfl _ _ rfl w.heap.size rfl HOW3.out rfl (by omega) hsz3 ?_;intro ao5 c5 w5 hown5 hb5 hs5);have HO5:=hd' hown5;have HB5:=hd' (HB3.out.trans hb5);clear hown5 hb5
       try go_wp2_with fail
       go_roundw
       case rel=>exact⟨k+1,(m+1),ao5,c5,by go_num,by omega,rfl,by rw[B.putTo_ge h1 (by have:=HE.out;omega) HX.out];have h:=HXE.out;rw[h];exact HO5.out,HB5.out⟩
       case measure=>simp[intOf];omega
      ·skip
       go_upto_region 11 with fail
       go_wp2_with (at_builtin;refine app_ins rfl _ _ rfl w.heap.size rfl HOW3.out rfl (by omega) hsz3 ?_;intro ao5 c5 w5 hown5 hb5 hs5);have HO5:=hd' hown5;have HB5:=hd' (HB3.out.trans hb5);clear hown5 hb5
       try go_wp2_with fail
       go_roundw
       case rel=>exact⟨k+1,(m+1),ao5,c5,by go_num,by omega,rfl,by rw[B.putTo_ge h1 (by have:=HE.out;omega) HX.out];have h:=HXE.out;rw[h];exact HO5.out,HB5.out⟩
       case measure=>simp[intOf];omega
  ·obtain rfl:k=len:=by omega
   have HF:Hid (OwnP wr w.heap.size ao m c (B.put ps i L C)):=hd' (by have:=HOW.out;rwa[HLE.out,B.putTo_end h1 (by have:=HLE.out;have:=HE.out;omega)]at this);clear HOW;go_wp2_with fail;go_ret;have:=HF.out.len;subst this;exact⟨ao,c,rfl,HF.out,HB.out⟩
end Code
end Go.Proofs.YtpibampaobncaaaGreatDoor
namespace Go.Proofs.YtpibampaobncaaaGreatDoor
open Go.RowKit
namespace B
theorem once_at{p:List Ins}{i:Nat}{a b:Mv}(h:pairAt p i=some (a,b))(hi:i<p.length)(hf:∀j,j<i→pairAt p j=none):once p=some (put p i (a.size+b.size) (joinM a b).code):=by
 have e:((List.range p.length).find? fun i=>(pairAt p i).isSome)=some i:=by
  rw[List.find?_range_eq_some];exact⟨by simp[h],List.mem_range.2 hi,fun j hj=>by simp[hf j hj]⟩
 unfold once;rw[e];simp only[h]
theorem once_no{p:List Ins}(hf:∀j,j<p.length→pairAt p j=none):once p=none:=by
 have e:((List.range p.length).find? fun i=>(pairAt p i).isSome)=none:=by
  rw[List.find?_range_eq_none]
  exact fun j hj=>by simp[hf j hj]
 unfold once;rw[e]
end B
namespace Code
attribute [local go_sem ↓] Go.wp_at_zero Go.wp_at_succ
def OnOut(o:Option (List B.Ins))(v:Value)(w:World)(e:Ending)(w':World):Prop:=
 (∃q ao cp,o=some q∧e= .returned (.tuple #[.slice ao q.length cp,.bool true])∧OwnP w' w.heap.size ao q.length cp q∧Below w.heap.size w w')∨(o=none∧e= .returned (.tuple #[v,.bool false])∧Below w.heap.size w w')
set_option maxRecDepth 100000 in
set_option maxHeartbeats 12800000 in
theorem once18_any(a:Option Addr)(len cap:Nat)(ps:List B.Ins)(size slots:Int)(w:World)(hp:ProgAt w a len ps)(hok:B.OkTouch ps size slots)(hl:len≤16384):
    Calls Tryz.prog 36 #[.slice a len cap] w (OnOut (B.once ps) (.slice a len cap) w):=by
 have HLE:=hd' hp.len;have HR:=hd' hok.mem;have HPP:Hid (∀W,Below w.heap.size w W→ProgAt W a len ps):=hd' (fun W h=>hp.below h (lR' _));have HTG:Hid (∀(k:Nat) (W:World),k≤len→Below w.heap.size w W→Calls Tryz.prog 57 #[.slice a len cap,.int .i64 (k:Int)] W (TgOut (B.pairAt ps k) W)):=hd' (fun k W hk hb=>together18_any a len cap ps size slots k W (hp.below hb (lR' _)) hok hl hk)
 have HPT:Hid (∀(k L:Nat) (n2:Int) (al:Option Addr) (n cl:Nat) (C:List B.Ins) (W:World),ProgAt W al n C→(al=none→cl=0)→n≤100→1≤L→k+L≤len→n2=((k+L:Nat):Int)→Below w.heap.size w W→Calls Tryz.prog 58 #[.slice a len cap,.int .i64 (k:Int),.int .i64 n2,.slice al n cl] W (CodeOut (B.put ps k L C) W)):=
  hd' (fun k L n2 al n cl C W h1 h2 h3 h4 h5 h6 hb=>put18_any a len cap ps k L n2 al n cl C W (hp.below hb (lR' _)) hok.mem hl h1 h2 h3 h4 h5 h6)
 obtain⟨on,hon⟩:∃on,B.once ps=on:=⟨_,rfl⟩;rw[hon];have HON:=hd' hon;clear hp hok hon;go_enter Tryz.func36,Tryz.ntmps36;go_wp2_with fail
 go_loopw [4] (fun i wr=>∃k:Nat,i= .int .i64 k∧k≤len∧(∀j,j<k→B.pairAt ps j=none)∧Below w.heap.size w wr) (fun i _=>len-(intOf i).toNat)
 case atStart=>exact⟨0,rfl,by omega,fun j hj=>by omega,Below.refl _ _⟩
 case round=>
  obtain⟨k,rfl,hk,hnone,hb⟩:=hrel;have HNO:=hd' hnone;have HB:=hd' hb;have hsz:=hb.size
  have k0:(0:Int)≤(k:Int):=by omega
  clear hnone hb
  by_cases hlt:k<len
  ·have k1:(k:Int)<(len:Int):=by omega
   go_wp2_with fail;refine(HTG.out k wr (by omega) HB.out).mono ?_;rintro e w2 ⟨ma,mb,rfl,hpr,hb2⟩;obtain⟨o,ho⟩:∃o,B.pairAt ps k=o:=⟨_,rfl⟩;rw[ho]at hpr⊢;have HPR:=hd' hpr;have HO:=hd' ho;have HB2:=hd' (HB.out.trans (hb2.mono hsz));have hs2:=HB2.out.size;clear hpr ho hb2;obtain⟨C1,hC1⟩:∃C,mrF ma=C:=⟨_,rfl⟩;obtain⟨C2,hC2⟩:∃C,mrF mb=C:=⟨_,rfl⟩;have HC1:=hd' hC1;have HC2:=hd' hC2
   have z1:C1.size=8:=by rw[←hC1];rfl
   have z2:C2.size=8:=by rw[←hC2];rfl
   have n1:C1.all (·.oneCell')=true:=by rw[←hC1];exact mrF_ones _
   have n2:C2.all (·.oneCell')=true:=by rw[←hC2];exact mrF_ones _
   rw[hC1,hC2];clear hC1 hC2;have hA0:R8 (w2.alloc (.cells mr0 93)) w2.heap.size mr0:=R8.new mr0 rfl w2 rfl;have hb01:Below w2.heap.size w2 (w2.alloc (.cells mr0 93)):=(Below.refl _ _).alloc (lR' _) _
   have hsv:(w2.alloc (.cells mr0 93)).heap.size=w2.heap.size+1:=by simp
   obtain⟨V,hV⟩:∃v,(w2.alloc (.cells mr0 93)).alloc (.cells mr0 93)=v:=⟨_,rfl⟩
   have hbV:Below w2.heap.size w2 V:=by rw[←hV];exact hb01.alloc (by omega) _
   have hAV:R8 V w2.heap.size mr0:=by rw[←hV];exact CellsAt.below hA0 ((Below.refl _ _).alloc (lR' _) _) (by omega)
   have hBV:R8 V (w2.heap.size+1) mr0:=by rw[←hV];exact R8.new mr0 rfl _ hsv.symm
   have HTW:=hd' (R8.two hAV hBV (by omega) C1 C2 z1 z2 (HB2.out.trans (hbV.mono hs2)) hs2 (by omega));have HT1:=hd' (CellsAt.there hAV (o:=0) (m:=C1.size) (by omega));have HT2:=hd' (CellsAt.there HTW.out.1 (o:=0) (m:=C2.size) (by omega));clear hA0 hb01 hsv hbV hAV hBV;unfold mr0 at hV
   cases o with
   | none=>
    have HN2:Hid (∀j,j<k+1→B.pairAt ps j=none):=hd' (fun j hj=>by
     by_cases h:j<k
     ·exact HNO.out j h
     ·obtain rfl:j=k:=by omega
      exact HO.out)
    clear HNO HO;simp only[Option.isSome];go_wp2_with ((refine wpList_store_mid (by rfl) 93 _ _ (by rfl) w2.heap.size 0 C1 (by rfl) (by rfl) HT1.out (by rw[infoM93];simp[z1]) n1 ?_);generalize V.setCells w2.heap.size 0 C1.toList=vz at*;refine wpList_store_mid (by rfl) 93 _ _ (by rfl) (w2.heap.size+1) 0 C2 (by rfl) (by rfl) HT2.out (by rw[infoM93];simp[z2]) n2 ?_);go_roundw
    case rel=>exact⟨k+1,by go_num,by omega,HN2.out,HTW.out.2.2.2⟩
    case measure=>simp[intOf];omega
   | some p=>
    obtain rfl:p=(ma,mb):=HPR.out p rfl;have HFND:Hid (some (B.put ps k (ma.size+mb.size) (B.joinM ma mb).code)=on):=hd' (by rw[←HON.out];exact(B.once_at HO.out (by have:=HLE.out;omega) HNO.out).symm);clear HNO;simp only[Option.isSome];go_wp2_with ((refine wpList_store_mid (by rfl) 93 _ _ (by rfl) w2.heap.size 0 C1 (by rfl) (by rfl) HT1.out (by rw[infoM93];simp[z1]) n1 ?_);generalize V.setCells w2.heap.size 0 C1.toList=vz at*;refine wpList_store_mid (by rfl) 93 _ _ (by rfl) (w2.heap.size+1) 0 C2 (by rfl) (by rfl) HT2.out (by rw[infoM93];simp[z2]) n2 ?_);have hra:=(B.pairAt_some HO.out).1;have hrb:=(B.nextMv_some (B.pairAt_some HO.out).2.2).1;have hway:=(B.nextMv_some (B.pairAt_some HO.out).2.2).2.1;have hfa:=B.readMv_fits hra;have hfb:=B.readMv_fits hrb;have HMA:=hd' (B.read_ok HR.out hra)
    have HMB:=hd' (B.read_ok HR.out hrb);have HMJ:=hd' (B.joinM_ok HMA.out HMB.out hway);have hle:=HLE.out;rw[←hle]at hfa hfb;have hl1:=hfa.2;have hl2:=hfb.1
    have c17:C1.getD 7 undef= .int .i64 (ma.size:Int):=by rw[←HC1.out];rfl
    have c27:C2.getD 7 undef= .int .i64 (mb.size:Int):=by rw[←HC2.out];rfl
    have e1:IntKind.i64.wrap ((k:Int)+(ma.size:Int))=(k:Int)+(ma.size:Int):=IntWalk.i64_in _ (by omega)
    have e2:IntKind.i64.wrap ((k:Int)+(ma.size:Int)+(mb.size:Int))=(k:Int)+((ma.size:Int)+(mb.size:Int)):=by rw[Int.add_assoc];exact IntWalk.i64_in _ (by omega)
    have e4:IntKind.i64.wrap ((k:Int)+((ma.size:Int)+(mb.size:Int)))=(k:Int)+((ma.size:Int)+(mb.size:Int)):=IntWalk.i64_in _ (by omega);have HE3:Hid ((k:Int)+((ma.size:Int)+(mb.size:Int))=((k+(ma.size+mb.size):Nat):Int)):=hd' (by omega);clear hra hrb hway hfa hfb HO HPR hle;obtain⟨-,hR1,hR2,hBZ⟩:=HTW.out;obtain⟨X5,hX5⟩:∃X,w2.heap.size=X:=⟨_,rfl⟩;obtain⟨X6,hX6⟩:∃X,w2.heap.size+1=X:=⟨_,rfl⟩;simp only[hX6]at hR1 hR2 hBZ⊢;simp only[hX5]at hR1 hR2 hBZ⊢;clear HTW HT1 HT2;obtain⟨w3,hw3⟩:∃v,vz.setCells X6 0 C2.toList=v:=⟨_,rfl⟩;simp only[hw3]at hR1 hR2 hBZ⊢;clear hw3 hV;have HB3:=hd' hBZ;have hs3:=hBZ.size;clear hBZ;refine wp_region_held_drew (S:=fun w'=>R8 w' X5 C1∧R8 w' X6 C2) (by kernel_rfl) ⟨CellsAt.of hR1 rfl,CellsAt.of hR2 rfl⟩ (fun hS=> ?_)
    refine takeS (i:=0) (d:=22) (v:=.slice a len cap) rfl rfl rfl (by kernel_rfl) (by kernel_rfl) (by kernel_rfl) (fun _ _ _ h=>h) (fun w' _=>by go_simp) hS ?_;simp only[Act.put,sA',sZ',sS'];refine takeS (i:=1) (d:=23) (v:=.int .i64 (k:Int)) rfl rfl rfl (by kernel_rfl) (by kernel_rfl) (by kernel_rfl) (fun _ _ _ h=>h) (fun w' _=>by go_simp) hS ?_;simp only[Act.put,sA',sZ',sS'];refine takeS (i:=2) (d:=24) (v:=.int .i64 (k:Int)) rfl rfl rfl (by kernel_rfl) (by kernel_rfl) (by kernel_rfl) (fun _ _ _ h=>h) (fun w' _=>by go_simp) hS ?_;simp only[Act.put,sA',sZ',sS'];refine takeS (i:=3) (d:=25) (v:=.pointer (some ⟨X5,7,none⟩)) rfl rfl rfl (by kernel_rfl) (by kernel_rfl) (by kernel_rfl) (fun _ _ _ h=>h) (fun w' _=>by go_simp) hS ?_;simp only[Act.put,sA',sZ',sS']
    refine takeS (i:=4) (d:=26) (v:=.int .i64 (ma.size:Int)) rfl rfl rfl (by kernel_rfl) (by kernel_rfl) (by kernel_rfl) (fun _ _ _ h=>h) (fun w' h=>by(have c:=CellsAt.cell h.1 (j:=7) (by omega);rw[c17]at c;go_simp)) hS ?_;simp only[Act.put,sA',sZ',sS'];refine takeS (i:=5) (d:=27) (v:=.int .i64 ((k:Int)+(ma.size:Int))) rfl rfl rfl (by kernel_rfl) (by kernel_rfl) (by kernel_rfl) (fun _ _ _ h=>h) (fun w' _=>by go_simp) hS ?_;simp only[Act.put,sA',sZ',sS'];refine takeS (i:=6) (d:=28) (v:=.pointer (some ⟨X6,7,none⟩)) rfl rfl rfl (by kernel_rfl) (by kernel_rfl) (by kernel_rfl) (fun _ _ _ h=>h) (fun w' _=>by go_simp) hS ?_;simp only[Act.put,sA',sZ',sS'];refine takeS (i:=7) (d:=29) (v:=.int .i64 (mb.size:Int)) rfl rfl rfl (by kernel_rfl) (by kernel_rfl) (by kernel_rfl) (fun _ _ _ h=>h) (fun w' h=>by(have c:=CellsAt.cell h.2 (j:=7) (by omega);rw[c27]at c;go_simp)) hS ?_
    simp only[Act.put,sA',sZ',sS'];refine takeS (i:=8) (d:=30) (v:=.int .i64 ((k:Int)+((ma.size:Int)+(mb.size:Int)))) rfl rfl rfl (by kernel_rfl) (by kernel_rfl) (by kernel_rfl) (fun _ _ _ h=>h) (fun w' _=>by go_simp) hS ?_;simp only[Act.put,sA',sZ',sS'];refine takeM (i:=9) (d:=31) 93 _ X5 0 C1 _ rfl rfl rfl rfl (by rfl) Tryz.underlying93 rfl (by rw[infoM93];simp[z1]) (by kernel_rfl) (by kernel_rfl) (by kernel_rfl) (fun _ _ _ h=>h) (fun w' h=>R8.range h.1 z1) hS ?_;simp only[Act.put,sA',sZ',sS'];refine takeM (i:=10) (d:=32) 93 _ X6 0 C2 _ rfl rfl rfl rfl (by rfl) Tryz.underlying93 rfl (by rw[infoM93];simp[z2]) (by kernel_rfl) (by kernel_rfl) (by kernel_rfl) (fun _ _ _ h=>h) (fun w' h=>R8.range h.2 z2) hS ?_;simp only[Act.put,sA',sZ',sS']
    have HJN:=hd' (joined18_any ma mb HMA.out HMB.out w3.drew);rw[HC1.out,HC2.out]at HJN;refine wpAnyH_ready (rs:=[11]) (by kernel_rfl) (by simp) ?_;refine AllReadyH.cons rfl (fun K hK=> ?_) AllReadyH.nil;go_simp;refine HJN.out.mono ?_;rintro e w6 ⟨rfl,hb6⟩;have hb6':Below w3.heap.size w3 w6:=(Below.refl _ _).drew.trans hb6;have HB6:=hd' hb6';have hs6:=hb6'.size;refine hK.out _ _ ⟨CellsAt.below hS.1 hb6 (CellsAt.blk hS.1),CellsAt.below hS.2 hb6 (CellsAt.blk hS.2)⟩ (fun hS2=> ?_);clear hK K hb6 hb6' HJN hS;have HCD:=hd' (code18_any (B.joinM ma mb) HMJ.out w6);refine wpAnyH_ready (rs:=[12]) (by kernel_rfl) (by simp) ?_;refine AllReadyH.cons rfl (fun K hK=> ?_) AllReadyH.nil;go_simp;refine HCD.out.mono ?_;rintro e w7 ⟨ac,cc,rfl,hown,hb7⟩;have HB7:=hd' (HB6.out.trans (hb7.mono hs6));have hs7:=HB7.out.size;have HOC:=hd' hown
    refine hK.out _ _ ⟨CellsAt.below hS2.1 hb7 (CellsAt.blk hS2.1),CellsAt.below hS2.2 hb7 (CellsAt.blk hS2.2)⟩ (fun hS3=> ?_);clear hK K hb7 hown HCD hS2
    have hcl:(B.joinM ma mb).code.length≤100:=by have:=(B.code_len (m:=B.joinM ma mb)).2;split at this<;>omega
    have HPU:=hd' (HPT.out k (ma.size+mb.size) _ ac _ cc (B.joinM ma mb).code w7 HOC.out.progAt (OwnP.nilCap HOC.out) hcl (by omega) (by omega) HE3.out (HB3.out.trans (HB7.out.mono hs3)));refine wpAnyH_ready (rs:=[13]) (by kernel_rfl) (by simp) ?_;refine AllReadyH.cons rfl (fun K hK=> ?_) AllReadyH.nil;go_simp;refine HPU.out.mono ?_;rintro e w8 ⟨aq,cq,rfl,hown,hb8⟩;have HB8:=hd' (HB7.out.trans (hb8.mono hs7));have HOQ:=hd' (own_weaken hown (Nat.le_trans (Nat.le_trans (Nat.le_trans HB3.out.size hs7) (lR' _)) (lR' _)));refine hK.out _ _ ⟨CellsAt.below hS3.1 hb8 (CellsAt.blk hS3.1),CellsAt.below hS3.2 hb8 (CellsAt.blk hS3.2)⟩ (fun hS4=> ?_);clear hK K hb8 hown HPU hS3;refine wpAnyH_ready (rs:=[14]) (by kernel_rfl) (by simp) ?_;refine AllReadyH.cons rfl (fun K hK=> ?_) AllReadyH.nil;go_simp;refine hK.out _ _ hS4 (fun hS5=> ?_);clear hK K hS4
    refine wpAnyH_ready (rs:=[15]) (by kernel_rfl) (by simp) ?_;refine AllReadyH.cons rfl (fun K hK=> ?_) AllReadyH.nil;go_simp;refine hK.out _ _ hS5 (fun hS6=> ?_);clear hK K hS5;refine wpAnyH_done (by kernel_rfl) ?_ _;go_wp2_with fail;go_ret2;exact .inl ⟨_,aq,cq,HFND.out.symm,rfl,HOQ.out,HB3.out.trans (HB8.out.mono hs3)⟩
  ·obtain rfl:k=len:=by omega
   have HF:Hid (none=on):=hd' (by rw[←HON.out];exact(B.once_no (fun j hj=>HNO.out j (by have:=HLE.out;omega))).symm);go_wp2_with fail;go_ret2;exact .inr ⟨HF.out.symm,rfl,HB.out⟩
end Code
end Go.Proofs.YtpibampaobncaaaGreatDoor
namespace Go.Proofs.YtpibampaobncaaaGreatDoor
open Go.RowKit
namespace Code
attribute [local go_sem ↓] Go.wp_at_zero Go.wp_at_succ
def at18(o:Option Nat):Int:=match o with | some i=>(i:Int) | none=> -1
def RPo18(p:Int×Option Nat)(w:World)(e:Ending)(w':World):Prop:=e= .returned (refOut p)∧Below w.heap.size w w'
theorem own_mono18{w:World}{base base' E size n:Nat}{v:Value}{xs:List Value}(h:w.ownsRow base E size v n xs)(hb:base'≤base):w.ownsRow base' E size v n xs:=by
 refine⟨h.1, ?_⟩;rcases h.2 with h0 | ⟨g,c,cur,h1,h2,h3⟩
 ·exact .inl h0
 ·exact .inr ⟨g,c,cur,h1,Nat.le_trans hb h2,h3⟩
def RFuseYes(ps:List B.Ins)(w:World)(e:Ending)(w':World):Prop:=∃ao cp,e= .returned (.tuple #[.slice ao (B.fuse ps).length cp,.int .i64 0,.int .i64 (-1)])∧OwnP w' w.heap.size ao (B.fuse ps).length cp (B.fuse ps)∧Below w.heap.size w w'
def RFuseNo(p:Int×Option Nat)(w:World)(e:Ending)(w':World):Prop:=e= .returned (.tuple #[.slice none 0 0,.int .i64 p.1,.int .i64 (at18 p.2)])∧Below w.heap.size w w'
def FuAt(ps:List B.Ins)(size slots:Int)(more:Bool)(k:Nat)(qs:List B.Ins):Prop:=
 B.MayRun qs size slots∧B.fuse ps=B.fuse qs∧qs.length≤ps.length∧(more=true→k+qs.length≤ps.length)∧(more=false→B.once qs=none)
theorem FuAt.one{ps:List B.Ins}{size slots:Int}{k:Nat}{qs q:List B.Ins}(h:FuAt ps size slots true k qs)(ho:B.once qs=some q):FuAt ps size slots true (k+1) q:=by
 obtain⟨h1,h2,h3,h4, -⟩:=h;obtain⟨g1,g2,g3⟩:=B.fuse_step h1 ho;have:=h4 rfl;exact⟨g1,h2.trans g3,by omega,fun _=>by omega,fun h=>by cases h⟩
theorem FuAt.no{ps:List B.Ins}{size slots:Int}{k:Nat}{qs:List B.Ins}(h:FuAt ps size slots true k qs)(ho:B.once qs=none):FuAt ps size slots false (k+1) qs:=
 ⟨h.1,h.2.1,h.2.2.1,(fun h=>by cases h),fun _=>ho⟩
theorem FuAt.done{ps:List B.Ins}{size slots:Int}{k:Nat}{qs:List B.Ins}{more:Bool}(h:FuAt ps size slots more k qs)(hk:ps.length<k∨more=false):qs=B.fuse ps:=by
 cases more with
 | true=>
  have:=h.2.2.2.1 rfl;rcases hk with h | h
  ·omega
  ·cases h
 | false=>rw[h.2.1,B.fuse_stop (h.2.2.2.2 rfl)]
set_option maxRecDepth 100000 in
set_option maxHeartbeats 6400000 in
theorem fuse18_yes(a:Option Addr)(len cap:Nat)(ps:List B.Ins)(size slots:Int)(w:World)(hp:ProgAt w a len ps)(hwf:∀y∈ps,y.Wf)(hm:B.MayRun ps size slots):
    Calls Tryz.prog 21 #[.slice a len cap,.int .i64 size,.int .i64 slots] w (RFuseYes ps w):=by
 have HP:=hd' hp
 have hl:len≤16384:=by have:=hm.len;have:=hp.len;omega
 have HLE:=hd' hp.len;have HF0:Hid (FuAt ps size slots true 0 ps):=hd' ⟨hm,rfl,lR' _,fun _=>by omega,fun h=>by cases h⟩;have HC:=hd' (refprog_any a len cap ps size slots w hp hwf (by omega));have HZ:=hd' ((B.program_ok ps size slots).2 hm);clear hp hwf hm;go_enter Tryz.func21,Tryz.ntmps21;go_wp2_with fail;refine HC.out.mono ?_;rintro e w1 ⟨rfl,hb1⟩;have HB1:=hd' hb1;have hs1:=hb1.size;clear hb1;rw[HZ.out];have HO:Hid (refOut (0,none)= .tuple #[.int .i64 0,.int .i64 (-1)]):=hd' rfl;rw[HO.out];clear HC HZ HO;have HCP:=hd' (copy_any a len cap ps w1 (HP.out.below HB1.out (lR' _)) (by omega));go_wp2_with fail;refine HCP.out.mono ?_;rintro e w2 ⟨ac,cc,rfl,hown,hb2⟩;have HOC:=hd' (own_weaken hown hs1);have HB2:=hd' (HB1.out.trans (hb2.mono hs1));clear hown hb2 HCP HP;go_wp2_with fail
 go_loopw [11,12,13] (fun q m i wr=>∃(k n:Nat) (aq:Option Addr) (cq:Nat) (qs:List B.Ins) (more:Bool),q= .slice aq n cq∧m= .bool more∧i= .int .i64 k∧k≤len+1∧FuAt ps size slots more k qs∧OwnP wr w.heap.size aq n cq qs∧Below w.heap.size w wr) (fun _ _ i _=>len+1-(intOf i).toNat)
 case atStart=>exact⟨0,len,ac,cc,ps,true,rfl,rfl,rfl,by omega,HF0.out,HOC.out,HB2.out⟩
 case round=>
  obtain⟨k,n,aq,cq,qs,more,rfl,rfl,rfl,hk,hfu,hown,hb⟩:=hrel;have HFU:=hd' hfu;have HOW:=hd' hown;have HB:=hd' hb;have hsz:=hb.size
  have hnl:n≤16384:=by have:=hown.len;have:=hfu.2.2.1;have:=HLE.out;omega
  have k0:(0:Int)≤(k:Int):=by omega
  clear hfu hown hb HOC HB2 HF0
  by_cases hlt:k≤len
  ·have k1:(k:Int)≤(len:Int):=by omega
   cases more with
   | true=>
    have HON:=hd' (once18_any aq n cq qs size slots wr HOW.out.progAt HFU.out.1.ok hnl);go_wp2_with fail;refine HON.out.mono ?_;rintro e w3 h;rcases h with⟨q,ao,cp,ho,rfl,hown,hb3⟩ | ⟨ho,rfl,hb3⟩
    ·have HF3:=hd' (HFU.out.one ho)
     have HO3:=hd' (own_weaken hown hsz);have HB3:=hd' (HB.out.trans (hb3.mono hsz));clear hown hb3 ho HON;go_wp2_with fail;go_roundw
     case rel=>exact⟨k+1,_,ao,cp,q,true,rfl,rfl,by go_num,by omega,HF3.out,HO3.out,HB3.out⟩
     case measure=>simp[intOf];omega
    ·have HF3:=hd' (HFU.out.no ho)
     have HO3:=hd' (HOW.out.kept hb3);have HB3:=hd' (HB.out.trans (hb3.mono hsz));clear hb3 ho HON;go_wp2_with fail;go_roundw
     case rel=>exact⟨k+1,n,aq,cq,qs,false,rfl,rfl,by go_num,by omega,HF3.out,HO3.out,HB3.out⟩
     case measure=>simp[intOf];omega
   | false=>
    have hq:Hid (qs=B.fuse ps):=hd' (HFU.out.done (.inr rfl));go_wp2_with fail;go_ret3;have hn:=HOW.out.len;have hq:=hq.out;subst hn hq;exact⟨aq,cq,rfl,HOW.out,HB.out⟩
  ·have k1:¬(k:Int)≤(len:Int):=by omega
   have hq:Hid (qs=B.fuse ps):=hd' (HFU.out.done (.inl (by have:=HLE.out;omega)));go_wp2_with fail;go_ret3;have hn:=HOW.out.len;have hq:=hq.out;subst hn hq;exact⟨aq,cq,rfl,HOW.out,HB.out⟩
set_option maxRecDepth 100000 in
set_option maxHeartbeats 3200000 in
theorem fuse18_no(a:Option Addr)(len cap:Nat)(ps:List B.Ins)(size slots:Int)(w:World)(hp:ProgAt w a len ps)(hwf:∀y∈ps,y.Wf)(hl:len≤9223372036854775807)(hz:(B.program ps size slots).1≠0):
    Calls Tryz.prog 21 #[.slice a len cap,.int .i64 size,.int .i64 slots] w (RFuseNo (B.program ps size slots) w):=by
 have HC:Hid (Calls Tryz.prog 34 #[.slice a len cap,.int .i64 size,.int .i64 slots] w (RPo18 (B.program ps size slots) w)):=hd' (refprog_any a len cap ps size slots w hp hwf hl);clear hp hwf;generalize hq:B.program ps size slots=p at*;clear hq;obtain⟨p1,p2⟩:=p;simp only at hz;have HI1:Hid (refOut (p1,p2)= .tuple #[.int .i64 p1,.int .i64 (at18 p2)]):=hd' rfl;go_enter Tryz.func21,Tryz.ntmps21;go_wp2_with fail;refine HC.out.mono ?_;rintro e w1 ⟨rfl,hb1⟩;have HB1:=hd' hb1;clear hb1 HC;rw[HI1.out];go_wp2_with fail;go_ret3;exact⟨rfl,HB1.out⟩
end Code
end Go.Proofs.YtpibampaobncaaaGreatDoor
