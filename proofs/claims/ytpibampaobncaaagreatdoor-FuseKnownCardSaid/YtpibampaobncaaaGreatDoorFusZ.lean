/- busbarlaw18: a bit laid, a bit read: their instructions. -/
import Derived.Test.YtpibampaobncaaaGreatDoorFusQ
import Derived.Test.YtpibampaobncaaaGreatDoorFuY
import Derived.Test.YtpibampaobncaaaGreatDoorMoreQ
open Go.Lib renaming hid→hd'
open Nat renaming le_refl→lR'
namespace Go.Proofs.YtpibampaobncaaaGreatDoor
open Go.RowKit
namespace Code
attribute [local go_sem ↓] Go.wp_at_zero Go.wp_at_succ
def midT(t d:Int):List B.Ins:=if 0<d then [⟨6,t,0,d,0⟩]else if d<0 then [⟨7,t,0, -d,0⟩]else []
def bitT(t v d:Int)(q:Nat):List B.Ins:=⟨2,t,v,0,0⟩::(midT t d++[⟨13,t,(q/8:Nat),1,(2^(q%8):Nat)⟩])
def backT(t a d:Int)(q:Nat):List B.Ins:=⟨9,t,(q/8:Nat),1,0⟩::⟨8,t,0,0,(2^(q%8):Nat)⟩::(midT t d++[⟨4,a,t,0,0⟩])
def bitG(d:Int)(q:Nat):List B.Ins:=⟨2,2,1,0,0⟩::(B.midI d++[⟨13,2,(q/8:Nat),1,(2^(q%8):Nat)⟩])
def backG(d:Int)(q:Nat):List B.Ins:=⟨9,2,(q/8:Nat),1,0⟩::⟨8,2,0,0,(2^(q%8):Nat)⟩::(B.midI d++[⟨4,1,2,0,0⟩])
theorem CodeOut.own{l:List B.Ins}{w w':World}{ao:Option Addr}{n cp:Nat}(h:OwnP w' w.heap.size ao n cp l)(hb:Below w.heap.size w w'):CodeOut l w (.returned (.slice ao n cp)) w':=by
 have:=h.len;subst this;exact⟨ao,cp,rfl,h,hb⟩
theorem pow8_wrap{r:Nat}(h:r<8):IntKind.u64.wrap (2^r)=((2^r:Nat):Int):=by
 have:r=0∨r=1∨r=2∨r=3∨r=4∨r=5∨r=6∨r=7:=by omega
 rcases this with rfl | rfl | rfl | rfl | rfl | rfl | rfl | rfl<;>decide
set_option maxRecDepth 100000 in
set_option maxHeartbeats 3200000 in
theorem bitT_any(t z d:Int)(q:Nat)(h0: -63≤d)(h1:d≤63)(hq:q≤63)(w:World):
    Calls Tryz.prog 9 #[.int .i64 t,.int .i64 z,.int .i64 d,.int .i64 q] w (CodeOut (bitT t z d q) w):=by
 have e1:(q:Int)/8=((q/8:Nat):Int):=by omega
 have e2:(q:Int)%8=((q%8:Nat):Int):=by omega
 have hr:q%8<8:=Nat.mod_lt _ (by omega)
 have hd8:q/8<8:=by omega
 have e3:=pow8_wrap hr
 have q0:(0:Int)≤(q:Int):=by omega
 have q1:(q:Int)≤63:=by omega
 have HB1:Hid (Below w.heap.size w (w.alloc (.cells #[.int .i64 2,.int .i64 t,.int .i64 z,.int .i64 0,.int .u64 0] 25))):=hd' ((Below.refl _ _).alloc (lR' _) _);have HO1:Hid (OwnP (w.alloc (.cells #[.int .i64 2,.int .i64 t,.int .i64 z,.int .i64 0,.int .u64 0] 25)) w.heap.size (some ⟨w.heap.size,0,none⟩) 1 1 [⟨2,t,z,0,0⟩]):=hd' (fown_one ⟨2,t,z,0,0⟩ w _ _ (lR' _) rfl);unfold bitT midT;generalize q/8=u at*;generalize q%8=v at*;obtain⟨w1,hw1⟩:∃w1,w.alloc (.cells #[.int .i64 2,.int .i64 t,.int .i64 z,.int .i64 0,.int .u64 0] 25)=w1:=⟨_,rfl⟩;rw[hw1]at HB1 HO1;have hz1:=HB1.out.size
 by_cases hp:0<d
 ·rw[if_pos hp]
  have k1:decide (d<0)=false:=by simp;omega
  go_enter Tryz.func9,Tryz.ntmps9
  go_upto_region 3 with fail
  clear hw1
  go_upto_region 4 with(at_builtin;refine app_ins rfl _ _ rfl w.heap.size rfl HO1.out rfl (by omega) hz1 ?_;intro ao2 cp2 w2 hown2 hb2 hsz2)
  have HO2:=hd' hown2;have HB2:=hd' (HB1.out.trans (hb2.mono (lR' _)));clear hown2 hb2;go_wp2_with (at_builtin;refine app_ins rfl _ _ rfl w.heap.size rfl HO2.out rfl (by omega) (by omega) ?_;intro ao3 cp3 w3 hown3 hb3 hsz3);go_ret;exact CodeOut.own hown3 (HB2.out.trans hb3)
 ·rw[if_neg hp]
  by_cases hn:d<0
  ·rw[if_pos hn]
   have k2:IntKind.i64.wrap (-d)= -d:=IntWalk.i64_in _ (by omega);go_enter Tryz.func9,Tryz.ntmps9
   go_upto_region 5 with fail
   clear hw1
   go_upto_region 6 with(at_builtin;refine app_ins rfl _ _ rfl w.heap.size rfl HO1.out rfl (by omega) hz1 ?_;intro ao2 cp2 w2 hown2 hb2 hsz2)
   have HO2:=hd' hown2;have HB2:=hd' (HB1.out.trans (hb2.mono (lR' _)));clear hown2 hb2;go_wp2_with (at_builtin;refine app_ins rfl _ _ rfl w.heap.size rfl HO2.out rfl (by omega) (by omega) ?_;intro ao3 cp3 w3 hown3 hb3 hsz3);go_ret;exact CodeOut.own hown3 (HB2.out.trans hb3)
  ·rw[if_neg hn]
   obtain rfl:d=0:=by omega
   go_enter Tryz.func9,Tryz.ntmps9
   go_upto_region 6 with fail
   clear hw1;go_wp2_with (at_builtin;refine app_ins rfl _ _ rfl w.heap.size rfl HO1.out rfl (by omega) hz1 ?_;intro ao3 cp3 w3 hown3 hb3 hsz3);go_ret;exact CodeOut.own hown3 (HB1.out.trans hb3)
set_option maxRecDepth 100000 in
set_option maxHeartbeats 3200000 in
theorem backT_any(t z d:Int)(q:Nat)(h0: -63≤d)(h1:d≤63)(hq:q≤63)(w:World):
    Calls Tryz.prog 13 #[.int .i64 t,.int .i64 z,.int .i64 d,.int .i64 q] w (CodeOut (backT t z d q) w):=by
 have e1:(q:Int)/8=((q/8:Nat):Int):=by omega
 have e2:(q:Int)%8=((q%8:Nat):Int):=by omega
 have hr:q%8<8:=Nat.mod_lt _ (by omega)
 have hd8:q/8<8:=by omega
 have e3:=pow8_wrap hr
 have q0:(0:Int)≤(q:Int):=by omega
 have q1:(q:Int)≤63:=by omega
 unfold backT midT;generalize q/8=u at*;generalize q%8=v at*;have HB1:Hid (Below w.heap.size w (w.alloc (.cells #[.int .i64 9,.int .i64 t,.int .i64 u,.int .i64 1,.int .u64 0,.int .i64 8,.int .i64 t,.int .i64 0,.int .i64 0,.int .u64 ((2^v:Nat):Int)] 25))):=hd' ((Below.refl _ _).alloc (lR' _) _);have HO1:Hid (OwnP (w.alloc (.cells #[.int .i64 9,.int .i64 t,.int .i64 u,.int .i64 1,.int .u64 0,.int .i64 8,.int .i64 t,.int .i64 0,.int .i64 0,.int .u64 ((2^v:Nat):Int)] 25)) w.heap.size (some ⟨w.heap.size,0,none⟩) 2 2 [⟨9,t,u,1,0⟩,⟨8,t,0,0,(2^v:Nat)⟩]):=hd' (fown_two ⟨9,t,u,1,0⟩ ⟨8,t,0,0,(2^v:Nat)⟩ w _ _ (lR' _) rfl);obtain⟨pw,hpw⟩:∃pw,2^v=pw:=⟨_,rfl⟩;rw[hpw]at e3 HB1 HO1⊢;clear hpw
 obtain⟨w1,hw1⟩:∃w1,w.alloc (.cells #[.int .i64 9,.int .i64 t,.int .i64 u,.int .i64 1,.int .u64 0,.int .i64 8,.int .i64 t,.int .i64 0,.int .i64 0,.int .u64 (pw:Int)] 25)=w1:=⟨_,rfl⟩;rw[hw1]at HB1 HO1;have hz1:=HB1.out.size
 by_cases hp:0<d
 ·rw[if_pos hp]
  have k1:decide (d<0)=false:=by simp;omega
  go_enter Tryz.func13,Tryz.ntmps13
  go_upto_region 3 with fail
  clear hw1
  go_upto_region 4 with(at_builtin;refine app_ins rfl _ _ rfl w.heap.size rfl HO1.out rfl (by omega) hz1 ?_;intro ao2 cp2 w2 hown2 hb2 hsz2)
  have HO2:=hd' hown2;have HB2:=hd' (HB1.out.trans (hb2.mono (lR' _)));clear hown2 hb2;go_wp2_with (at_builtin;refine app_ins rfl _ _ rfl w.heap.size rfl HO2.out rfl (by omega) (by omega) ?_;intro ao3 cp3 w3 hown3 hb3 hsz3);go_ret;exact CodeOut.own hown3 (HB2.out.trans hb3)
 ·rw[if_neg hp]
  by_cases hn:d<0
  ·rw[if_pos hn]
   have k2:IntKind.i64.wrap (-d)= -d:=IntWalk.i64_in _ (by omega);go_enter Tryz.func13,Tryz.ntmps13
   go_upto_region 5 with fail
   clear hw1
   go_upto_region 6 with(at_builtin;refine app_ins rfl _ _ rfl w.heap.size rfl HO1.out rfl (by omega) hz1 ?_;intro ao2 cp2 w2 hown2 hb2 hsz2)
   have HO2:=hd' hown2;have HB2:=hd' (HB1.out.trans (hb2.mono (lR' _)));clear hown2 hb2;go_wp2_with (at_builtin;refine app_ins rfl _ _ rfl w.heap.size rfl HO2.out rfl (by omega) (by omega) ?_;intro ao3 cp3 w3 hown3 hb3 hsz3);go_ret;exact CodeOut.own hown3 (HB2.out.trans hb3)
  ·rw[if_neg hn]
   obtain rfl:d=0:=by omega
   go_enter Tryz.func13,Tryz.ntmps13
   go_upto_region 6 with fail
   clear hw1;go_wp2_with (at_builtin;refine app_ins rfl _ _ rfl w.heap.size rfl HO1.out rfl (by omega) hz1 ?_;intro ao3 cp3 w3 hown3 hb3 hsz3);go_ret;exact CodeOut.own hown3 (HB1.out.trans hb3)
theorem bit_any(d:Int)(q:Nat)(h0: -63≤d)(h1:d≤63)(hq:q≤63)(w:World):Calls Tryz.prog 9 #[.int .i64 2,.int .i64 1,.int .i64 d,.int .i64 q] w (CodeOut (bitG d q) w):=bitT_any 2 1 d q h0 h1 hq w
theorem back_any(d:Int)(q:Nat)(h0: -63≤d)(h1:d≤63)(hq:q≤63)(w:World):Calls Tryz.prog 13 #[.int .i64 2,.int .i64 1,.int .i64 d,.int .i64 q] w (CodeOut (backG d q) w):=backT_any 2 1 d q h0 h1 hq w
end Code
end Go.Proofs.YtpibampaobncaaaGreatDoor
namespace Go.Proofs.YtpibampaobncaaaGreatDoor
open Go.RowKit
namespace Code
attribute [local go_sem ↓] Go.wp_at_zero Go.wp_at_succ
def w18a:List B.Ins:=[⟨15,1,0,0,0⟩,⟨2,2,1,0,0⟩,⟨13,2,0,1,1⟩,⟨2,2,1,0,0⟩,⟨13,2,0,1,2⟩]
def w18b:List B.Ins:=[⟨15,1,0,0,0⟩,⟨2,2,1,0,0⟩,⟨13,2,0,1,3⟩]
theorem w18a_wf:∀y∈w18a,y.Wf:=by
 intro y hy;simp[w18a]at hy
 rcases hy with rfl | rfl | rfl | rfl | rfl<;>exact⟨by decide,by decide,by decide,by decide,by decide⟩
theorem w18a_run:B.program w18a 2 1=(0,none):=by decide+kernel
theorem w18a_fuse:B.fuse w18a=w18b:=by decide+kernel
theorem bit00:bitG 0 0=[⟨2,2,1,0,0⟩,⟨13,2,0,1,1⟩]:=by decide+kernel
theorem bit01:bitG 0 1=[⟨2,2,1,0,0⟩,⟨13,2,0,1,2⟩]:=by decide+kernel
def TwoOut(l:List B.Ins)(w:World)(e:Ending)(w':World):Prop:=∃ao cp,e= .returned (.slice ao 2 cp)∧OwnP w' w.heap.size ao 2 cp l∧Below w.heap.size w w'
theorem bit00_any(w:World):Calls Tryz.prog 9 #[.int .i64 2,.int .i64 1,.int .i64 0,.int .i64 0] w (TwoOut [⟨2,2,1,0,0⟩,⟨13,2,0,1,1⟩] w):=by
 have h:=bit_any 0 0 (by omega) (by omega) (by omega) w;rw[bit00]at h;exact h
theorem bit01_any(w:World):Calls Tryz.prog 9 #[.int .i64 2,.int .i64 1,.int .i64 0,.int .i64 1] w (TwoOut [⟨2,2,1,0,0⟩,⟨13,2,0,1,2⟩] w):=by
 have h:=bit_any 0 1 (by omega) (by omega) (by omega) w;rw[bit01]at h;exact h
set_option maxRecDepth 100000 in
set_option maxHeartbeats 3200000 in
theorem works18_any(w:World)(h:Tabs w):Calls Tryz.prog 10 #[] w (BoolOut true w):=by
 have HT:=hd' h;clear h;go_enter Tryz.func10,Tryz.ntmps10;go_wp2_with fail;have HO1:Hid (OwnP (w.alloc (.cells #[.int .i64 15,.int .i64 1,.int .i64 0,.int .i64 0,.int .u64 0] 25)) w.heap.size (some ⟨w.heap.size,0,none⟩) 1 1 [⟨15,1,0,0,0⟩]):=hd' (fown_one ⟨15,1,0,0,0⟩ w _ _ (lR' _) rfl);have HB1:Hid (Below w.heap.size w (w.alloc (.cells #[.int .i64 15,.int .i64 1,.int .i64 0,.int .i64 0,.int .u64 0] 25))):=hd' ((Below.refl _ _).alloc (lR' _) _);refine(bit00_any _).mono ?_;rintro e w2 ⟨ao2,cp2,rfl,hown2,hb2⟩;have HO2:=hd' hown2;have HO1':=hd' (HO1.out.kept hb2);have HB2:=hd' (HB1.out.trans (hb2.mono HB1.out.size));have hz2:=HB2.out.size;have hn2:=OwnP.nilCap hown2;clear hown2 hb2 HO1 HB1
 go_wp2_with (at_builtin;refine app_more rfl _ _ rfl w.heap.size rfl HO1'.out rfl HO2.out.progAt hn2 (by decide) hz2 ?_;intro ao3 cp3 w3 hown3 hb3 hs3);have HO3:=hd' hown3;have HB3:=hd' (HB2.out.trans hb3);have hz3:=HB3.out.size;clear hown3 hb3 HO2 HO1' hn2;refine(bit01_any _).mono ?_;rintro e w4 ⟨ao4,cp4,rfl,hown4,hb4⟩;have HO4:=hd' hown4;have HO3':=hd' (HO3.out.kept hb4);have HB4:=hd' (HB3.out.trans (hb4.mono hz3));have hz4:=HB4.out.size;have hn4:=OwnP.nilCap hown4;clear hown4 hb4 HO3;go_wp2_with (at_builtin;refine app_more rfl _ _ rfl w.heap.size rfl HO3'.out rfl HO4.out.progAt hn4 (by decide) hz4 ?_;intro ao5 cp5 w5 hown5 hb5 hs5);have HO5:Hid (OwnP w5 w.heap.size ao5 5 cp5 w18a):=hown5;have HB5:=hd' (HB4.out.trans hb5);have hz5:=HB5.out.size;clear hown5 hb5 HO4 HO3' hn4
 refine(fuse_yes ao5 5 cp5 HO5.out.capLe2 w18a 2 1 _ HO5.out.progAt w18a_wf (HT.out.below HB5.out (lR' _)) ((B.program_ok _ _ _).1 w18a_run)).mono ?_;rintro e w6 ⟨ao,cp,rfl,hown,hb6⟩;rw[w18a_fuse]at hown⊢;have HO:=hd' hown;have HB6:=hd' (HB5.out.trans (hb6.mono hz5));have hz6:=HB6.out.size;clear hown hb6 HO5;go_wp2_with fail;have hp2:=progAt_new w18b #[.int .i64 15,.int .i64 1,.int .i64 0,.int .i64 0,.int .u64 0,.int .i64 2,.int .i64 2,.int .i64 1,.int .i64 0,.int .u64 0,.int .i64 13,.int .i64 2,.int .i64 0,.int .i64 1,.int .u64 3] 3 25 w6 rfl rfl;refine(sameInstrs_yes _ _ _ _ _ _ w18b _ (HO.out.progAt.below ((Below.refl _ _).alloc (lR' _) _) (lR' _)) hp2 (by decide)).mono ?_;rintro e w7 ⟨rfl,hb7⟩
 have HB7:=hd' ((HB6.out.alloc hz6 (.cells #[.int .i64 15,.int .i64 1,.int .i64 0,.int .i64 0,.int .u64 0,.int .i64 2,.int .i64 2,.int .i64 1,.int .i64 0,.int .u64 0,.int .i64 13,.int .i64 2,.int .i64 0,.int .i64 1,.int .u64 3] 25)).trans (hb7.mono (by simp;omega)));clear hp2 hb7;go_wp2_with fail;go_ret;exact⟨rfl,HB7.out⟩
end Code
end Go.Proofs.YtpibampaobncaaaGreatDoor
