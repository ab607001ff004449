/- The document's answer for layer 15: is a signal active; what is read of a signal. -/
import Derived.Test.YtljhklblbafjkaaGreatDoorNcN
import Derived.Test.YtljhklblbafjkaaGreatDoorRtQ
import Derived.Test.YtljhklblbafjkaaGreatDoorLoQ
import Derived.Test.YtljhklblbafjkaaGreatDoorLxR
import Derived.Deep.Cut
import Derived.Test.YtljhklblbafjkaaGreatDoorUnQ
open Go.Lib renaming hid→hd'
open Nat renaming le_refl→lR'
open List renaming setIfInBounds_toArray→sA',set_cons_zero→sZ',set_cons_succ→sS'
namespace Go.Proofs.YtljhklblbafjkaaGreatDoor
open Go.RowKit
namespace Code
attribute [local go_sem ↓] Go.wp_at_zero Go.wp_at_succ
set_option maxRecDepth 100000 in
set_option maxHeartbeats 1600000 in
theorem ractive_any(s:B.Sig)(tv:Value)(at':Nat)(w:World):
    Calls Tryz.prog 39 #[.agg (sigC s tv),.int .u64 (at':Int)] w (fun e w'=>e= .returned (.bool (s.active at'))∧Below w.heap.size w w'):=by
 have hrow:=RC.new (sigC s tv) 71 w (n:=19) rfl rfl;have hbel:Below w.heap.size w (w.alloc (.cells (sigC s tv) 71)):=(Below.refl _ _).alloc (lR' _) _;obtain⟨w1,hw1⟩:∃w1,w.alloc (.cells (sigC s tv) 71)=w1:=⟨_,rfl⟩;rw[hw1]at hrow hbel;have k1:w1.cell? ⟨w.heap.size,3,none⟩=some (.int .i64 s.role):=hrow.cell (j:=3) rfl;have k2:w1.cell? ⟨w.heap.size,4,none⟩=some (.int .u64 s.branch):=hrow.cell (j:=4) rfl;have HB:=hd' hbel;clear hrow hbel;obtain⟨ans,hans⟩:∃ans,s.active at'=ans:=⟨_,rfl⟩;rw[hans];unfold B.Sig.active at hans
 by_cases h1:s.role=2
 ·have e1:(s.role !=2)=false:=by simp[h1]
  have HE:Hid (ans=(s.branch==(at':Int))):=hd' (by rw[←hans];simp[h1];rw[Bool.eq_iff_iff];simp);clear hans h1;go_enter Tryz.func39,Tryz.ntmps39
  go_upto_region 1 with fail
  try rw[hw1]
  clear hw1;go_wp2_with fail;go_ret;exact⟨by rw[HE.out];rfl,HB.out⟩
 ·have e1:(s.role !=2)=true:=by simp[h1]
  have HE:Hid (ans=true):=hd' (by rw[←hans];simp[h1]);clear hans h1;go_enter Tryz.func39,Tryz.ntmps39
  go_upto_region 1 with fail
  try rw[hw1]
  clear hw1;go_wp2_with fail;go_ret;exact⟨by rw[HE.out];rfl,HB.out⟩
theorem rextB_any(v n:Nat)(sg:Bool)(w:World)(hn1:1≤n)(hn:n≤64)(hv:v<18446744073709551616):Calls Tryz.prog 65 #[.int .u64 v,.int .i64 n,.bool sg] w (IntOut (B.extend v n sg) w):=by
 cases sg with
 | true=>exact rextend_any v n w hn1 hn hv
 | false=>
  have HC:=hd' (rlow_any v n w hn hv)
  have he:B.extend v n false=v%2^n:=by unfold B.extend B.low;rw[if_neg (by simp),if_neg (by omega)]
  rw[he];unfold IntOut at HC⊢;generalize v%2^n=z at*;clear he;go_enter Tryz.func65,Tryz.ntmps65;go_wp2_with fail;refine HC.out.mono ?_;rintro e w1 ⟨rfl,rfl⟩;go_wp2_with fail;go_ret;exact⟨rfl,rfl⟩
theorem bit8v:∀(x:Fin 256) (k:Fin 8),bits BinOp.and IntKind.u8 ((x.val:Int)/2^k.val) 1=if x.val.testBit k.val=true then 1 else 0:=by decide+kernel
set_option maxRecDepth 100000 in
set_option maxHeartbeats 3200000 in
theorem one_any(s:B.Sig)(tv:Value)(pa:Option Addr)(pn pc:Nat)(pay:List Nat)(w:World)(hs:s.placeNo=0)(hp:ListAt w pa pn (pay.map u8V))(hpn:pn≤8)(hby:B.Bytes pay)(hin:∀b∈s.bits,b<8*pn):
    Calls Tryz.prog 38 #[.agg (sigC s tv),.slice pa pn pc] w (fun e w'=>e= .returned (.int .u64 ((s.one pay:Nat):Int))∧Below w.heap.size w w'):=by
 have hrow:=RC.new (sigC s tv) 71 w (n:=19) rfl rfl;have hbel:Below w.heap.size w (w.alloc (.cells (sigC s tv) 71)):=(Below.refl _ _).alloc (lR' _) _;obtain⟨w1,hw1⟩:∃w1,w.alloc (.cells (sigC s tv) 71)=w1:=⟨_,rfl⟩;rw[hw1]at hrow hbel;have hrr:=RC.range hrow;have HROW:=hd' hrow;have HB:=hd' hbel;have hsz:=(B.Sig.place_ok hs).1;obtain⟨L,hL⟩:∃L:Nat,s.size=(L:Int):=⟨s.size.toNat,by omega⟩
 have hbl:s.bits.length=L:=by rw[s.bits_length,hL,Int.toNat_natCast]
 have hb1:=(rbits_any s tv w1).mono (fun e w' (h:RBitsOut s w1 e w')=>h.1 hs);rw[hbl]at hb1
 have hL64:L≤64:=by omega
 have hL1:1≤L:=by omega
 have hpl:pn=pay.length:=by have:=hp.len;simpa using this
 have HBL:=hd' hbl;have HSL:=hd' hL;have HP:=hd' hp;have HBY:=hd' hby;have HIN:=hd' hin;have HPL:=hd' hpl;obtain⟨V,hV⟩:∃V,B.rdF pay 0 s.bits 0=V:=⟨_,rfl⟩
 have hV64:V<18446744073709551616:=by
  rw[←hV];refine Nat.lt_of_lt_of_le (B.rdF_lt pay s.bits) ?_;rw[hbl,show 18446744073709551616=2^64 by rfl];exact Nat.pow_le_pow_right (by decide) hL64
 have HV:=hd' hV;have HV64:=hd' hV64;obtain⟨ans,hans⟩:∃ans,s.one pay=ans:=⟨_,rfl⟩;rw[hans]
 have hans2:B.extend V L s.signed=ans:=by rw[←hans];unfold B.Sig.one;rw[hV,hL,Int.toNat_natCast]
 have HA:=hd' hans2;clear hrow hbel hs hp hby hin hpl hsz hL hbl hV hV64 hans hans2;go_enter Tryz.func38,Tryz.ntmps38
 go_upto_region 1 with fail
 try rw[hw1]
 clear hw1
 go_upto_region 2 with(first
  | refine wpList_load_mid (by rfl) 71 _ (by rfl) w.heap.size 0 (by rfl) (sigC s tv).toList _ hrr Tryz.underlying71 (by rfl) (by rw[infoN71];rfl) ?_
  | (go_at_call 63;refine hb1.mono ?_;rintro e w2 ⟨ao,cap,rfl,hown,hb2⟩))
 have HOW:=hd' hown;have HB2:=hd' (HB.out.trans (hb2.mono HB.out.size));have HROW2:=hd' (HROW.out.low hb2 HROW.out.blk);clear hb1 hrr hown hb2;go_wp2_with fail
 go_loopw [7,8] (fun vv i wr=>∃k v:Nat,k≤L∧v<18446744073709551616∧i= .int .i64 (k:Int)∧vv= .int .u64 (v:Int)∧Hid (Below w2.heap.size w2 wr∧B.rdF pay k (s.bits.drop k) v=V)) (fun _ i _=>L-(intOf i).toNat)
 case atStart=>exact⟨0,0,by omega,by omega,rfl,rfl,hd' ⟨Below.refl _ _,HV.out⟩⟩
 case round=>
  obtain⟨k,v,hk,hv,rfl,rfl,HI⟩:=hrel
  by_cases hlt:k<L
  ·have e1:((k:Int)<(L:Int))=True:=by simp;omega
   have q0:(0:Int)≤(k:Int):=by omega
   have q1:(k:Int)<L:=by omega
   have hb:s.bits[k]? =some (s.bits[k]'(by have:=HBL.out;omega)):=List.getElem?_eq_getElem _;have hdrop:=List.drop_eq_getElem_cons (l:=s.bits) (i:=k) (by have:=HBL.out;omega);generalize s.bits[k]'(by have:=HBL.out;omega)=b at hb hdrop;have hstep:=HI.out.2;rw[hdrop,B.rdF]at hstep;obtain⟨g,rfl,_,hg2,hc⟩:=HOW.out.cell (i:=k) (v:=natV b) (by rw[List.getElem?_map,hb];rfl);unfold natV at hc;have hbpn:=HIN.out b (List.mem_of_getElem? hb)
   have hx:pay[b/8]? =some (pay.getD (b/8) 0):=by rw[List.getD_eq_getElem?_getD,List.getElem?_eq_getElem (by have:=HPL.out;omega)];rfl
   obtain⟨pb,po,rfl,hlp,hcp⟩:=HP.out.at_ (b/8) (u8V (pay.getD (b/8) 0)) (by rw[List.getElem?_map,hx];rfl);have hpb:B.payBit pay b=(pay.getD (b/8) 0).testBit (b%8):=rfl;have hx256:=HBY.out _ (List.mem_of_getElem? hx);generalize pay.getD (b/8) 0=x at hx hcp hpb hx256;unfold u8V at hcp
   have hA:bits BinOp.and IntKind.u8 ((x:Int)/2^(b%8)) 1=if x.testBit (b%8)=true then 1 else 0:=bit8v ⟨x,hx256⟩ ⟨b%8,Nat.mod_lt _ (by omega)⟩
   have cb:wr.cell? ⟨g,k,none⟩=some (.int .i64 (b:Int)):=(HI.out.1.cell (p:=⟨g,k,none⟩) hg2).trans hc;have cp:wr.cell? ⟨pb,po+b/8,none⟩=some (.int .u8 (x:Int)):=((HB2.out.trans (HI.out.1.mono HB2.out.size)).cell (p:=⟨pb,po+b/8,none⟩) hlp).trans hcp
   have q2:(0:Int)≤(b:Int)/8:=by omega
   have q3:(b:Int)/8<pn:=by omega
   have q4:((b:Int)/8).toNat=b/8:=by omega
   have q5:(k:Int)<64:=by omega
   have HBD:Hid (∀q,Below w2.heap.size w2 (wr.drewN q)):=hd' (fun q=>belowN HI.out.1 q);have hpk:2^k<18446744073709551616:=pow_lt64 (by omega);have hw1:=u64w _ hpk;have hor:=u64_or_nat v (2^k) hv hpk;have HOR:=hd' hor;have HPK:=hd' hpk;have HST:=hd' hstep;clear hb hdrop hc hx hcp hg2 hlp hbpn hx256 hstep hor
   cases hpb2:B.payBit pay b with
   | true=>
    rw[if_pos (by rw[←hpb];exact hpb2)]at hA;clear hpb
    go_upto_region 6 with fail
    go_quiet (fail)
    have HN:Hid (B.rdF pay (k+1) (s.bits.drop (k+1)) (v|||2^k)=V):=hd' (by have h:=HST.out;rw[if_pos hpb2]at h;exact h);have hlt64:v|||2^k<18446744073709551616:=Nat.or_lt_two_pow (n:=64) hv hpk;clear hpb2 cb cp hA;go_wp2_with fail;go_roundw
    case rel=>exact⟨k+1,v|||2^k,by omega,hlt64,by go_num,by rw[castpow,u64w _ HPK.out,HOR.out],hd' ⟨HBD.out _,HN.out⟩⟩
    case measure=>simp[intOf];omega
   | false=>
    rw[if_neg (by rw[←hpb,hpb2];simp)]at hA;clear hpb
    go_upto_region 6 with fail
    go_quiet (fail)
    have HN:Hid (B.rdF pay (k+1) (s.bits.drop (k+1)) v=V):=hd' (by have h:=HST.out;rw[if_neg (by rw[hpb2];simp),Nat.or_zero]at h;exact h);have HO0:Hid (bits BinOp.or IntKind.u64 (v:Int) 0=(v:Int)):=hd' (by have h:=u64_or_nat v 0 hv (by omega);rw[Nat.or_zero]at h;exact h);clear hpb2 cb cp hA;go_wp2_with fail;go_roundw
    case rel=>exact⟨k+1,v,by omega,hv,by go_num,by first | rw[HO0.out] | simp[HO0.out],hd' ⟨HBD.out _,HN.out⟩⟩
    case measure=>simp[intOf];omega
  ·obtain rfl:L=k:=by omega
   have e1:((L:Int)<(L:Int))=False:=by simp
   have hvV:v=V:=by
    have h:=HI.out.2;rw[List.drop_of_length_le (by rw[HBL.out];exact lR' _)]at h;exact h
   subst hvV;have HBW:=hd' (HB2.out.trans (HI.out.1.mono HB2.out.size));have hrw:=HROW2.out.low HI.out.1 HROW2.out.blk
   have k6:wr.cell? ⟨w.heap.size,6,none⟩=some (.int .i64 (L:Int)):=by rw[←HSL.out];exact hrw.cell (j:=6) rfl
   have k8:wr.cell? ⟨w.heap.size,8,none⟩=some (.bool s.signed):=hrw.cell (j:=8) rfl;have hex:=rextB_any v L s.signed wr hL1 hL64 hv;rw[HA.out]at hex;clear hrw HI HOW;go_wp2_with fail;refine hex.mono ?_;rintro e wx ⟨rfl,rfl⟩;go_wp2_with fail;go_ret;exact⟨rfl,HBW.out⟩
end Code
end Go.Proofs.YtljhklblbafjkaaGreatDoor
namespace Go.Proofs.YtljhklblbafjkaaGreatDoor
open Go.RowKit
namespace B
def Msg.reads(m:Msg)(pay:List Nat)(at':Nat):List Nat:=m.sigs.map fun s=>if s.active at'=true then s.one pay else 0
theorem Msg.Ok.seat{m:Msg}(h:m.Ok){s:Sig}(hs:s∈m.sigs):s.placeNo=0∧∀b∈s.bits,b<8*m.size.toNat:=by
 have h1:=Sig.where_ok (h.place s hs) h.size;exact⟨h1.1,fun b hb=>by have:=h1.2 b hb;have:=h.size;omega⟩
end B
namespace Code
attribute [local go_sem ↓] Go.wp_at_zero Go.wp_at_succ
theorem infoBo:(Tryz.prog.info? 4).map (fun i=>(i.zero,i.size,i.bytes))=some (some (.bool false),1,1):=by kernel_rfl
theorem keepOther{E E':TypeId}{w w':World}{base base' n c n' c':Nat}{a a':Option Addr}{vs vs':List Value}(h:One.OwnV E w base a n c vs)(h':One.OwnV E' w base' a' n' c' vs')(hne:E≠E')(hk:∀b,b<w.heap.size→a'≠some ⟨b,0,none⟩→w'.heap[b]? =w.heap[b]?):One.OwnV E w' base a n c vs:=by
 refine h.keep (fun g hg=>hk g ?_ (fun e=> ?_))
 ·rcases h.form with⟨e,_⟩ | ⟨g',e,_,hlt⟩
  ·rw[e]at hg;cases hg
  ·rw[e]at hg;cases hg;exact hlt
 ·have ho:=h.own
  have ho':=h'.own;rw[hg]at ho;rw[e]at ho';exact One.own_own_ne ho ho' hne (b:=g) rfl rfl
theorem keepRow{T E:TypeId}{w w':World}{b n base m c:Nat}{C:Array Value}{a:Option Addr}{vs:List Value}(h:RC w b T n C)(h':One.OwnV E w base a m c vs)(hne:E≠T)(hk:∀b,b<w.heap.size→a≠some ⟨b,0,none⟩→w'.heap[b]? =w.heap[b]?):RC w' b T n C:=by
 refine h.of (hk b h.blk (fun e=> ?_));have ho:=h'.own;rw[e]at ho;obtain⟨D,hD,_⟩:=h.1;exact own_ne ho hD hne rfl
theorem map_take_next{α β:Type}(f:α→β){l:List α}{k:Nat}{x:α}(h:l[k]? =some x):(l.take (k+1)).map f=(l.take k).map f++[f x]:=by
 rw[List.take_add_one,h,List.map_append];rfl
def ReadTwo(outs:List Nat)(has:List Bool)(n:Nat)(w:World)(e:Ending)(w':World):Prop:=
 ∃a1 c1 a2 c2,e= .returned (.tuple #[.slice a1 n c1,.slice a2 n c2])∧One.OwnV 49 w' w.heap.size a1 n c1 (outs.map u64V)∧One.OwnV 4 w' w.heap.size a2 n c2 (has.map Value.bool)∧Below w.heap.size w w'
set_option maxRecDepth 100000 in
set_option maxHeartbeats 6400000 in
theorem rread_any(m:B.Msg)(sa:Option Addr)(n cap:Nat)(pa:Option Addr)(pn pc:Nat)(pay:List Nat)(w:World)(hok:m.Ok)(hs:SigsAt w sa n m.sigs)(hpn:(pn:Int)=m.size)(hp:ListAt w pa pn (pay.map u8V))(hby:B.Bytes pay):
    Calls Tryz.prog 11 #[.agg (msgC m (.slice sa n cap)),.slice pa pn pc] w (ReadTwo (m.reads pay (m.muxP pay)) (m.actives (m.muxP pay)) n w):=by
 have hn:=hs.len
 have hn64:n≤64:=by rw[hn];exact hok.count
 have hpn8:pn≤8:=by have:=hok.size;omega
 have hrow:=RC.new (msgC m (.slice sa n cap)) 27 w (n:=8) rfl rfl;have hbel:Below w.heap.size w (w.alloc (.cells (msgC m (.slice sa n cap)) 27)):=(Below.refl _ _).alloc (lR' _) _;obtain⟨w1,hw1⟩:∃w1,w.alloc (.cells (msgC m (.slice sa n cap)) 27)=w1:=⟨_,rfl⟩;rw[hw1]at hrow hbel;have HROW:=hd' hrow;have HB1:=hd' hbel;have k7:w1.cell? ⟨w.heap.size,7,none⟩=some (.slice sa n cap):=hrow.cell (j:=7) rfl;have hmx:=rmux_any sa n cap n m.sigs w1 (hs.below hbel (lR' _)) (lR' _) (by omega);rw[List.take_of_length_le (by rw[hn];exact lR' _)]at hmx
 have HONE:Hid (∀(s:B.Sig),s∈m.sigs→∀tv wx,Below w.heap.size w wx→Calls Tryz.prog 38 #[.agg (sigC s tv),.slice pa pn pc] wx (fun e w'=>e= .returned (.int .u64 ((s.one pay:Nat):Int))∧Below wx.heap.size wx w')):=hd' (fun s hm tv wx hb=>by
  obtain⟨h1,h2⟩:=hok.seat hm
  exact one_any s tv pa pn pc pay wx h1 (hp.below hb (lR' _)) hpn8 hby (fun b hb=>by have:=h2 b hb;omega))
 have HS:=hd' hs;have HN:=hd' hn;obtain⟨z,hz⟩:∃z,B.muxZ m.sigs=z:=⟨_,rfl⟩;rw[hz]at hmx;have HZ:=hd' hz;obtain⟨at',hat⟩:∃a,m.muxP pay=a:=⟨_,rfl⟩;rw[hat];have HAT:=hd' hat;obtain⟨bz,hbz⟩:∃b,decide (0≤z)=b:=⟨_,rfl⟩
 have e0:(z≥0)=(bz=true):=by rw[←hbz];simp
 have HBZ:=hd' hbz;clear hrow hbel hs hn hok hp hby hz hat hbz hpn;go_enter Tryz.func11,Tryz.ntmps11
 go_upto_region 1 with fail
 try rw[hw1]
 clear hw1;go_wp2_with fail;refine hmx.mono ?_;rintro e wm ⟨rfl,rfl⟩;clear hmx
 go_upto_if 20 with fail
 go_cut [7]from 21 to 27 (fun p wx=>p= .int .u64 (at':Int)∧Below w1.heap.size w1 wx)
 case first=>
  cases hmi:B.muxI m.sigs with
  | none=>
   have hb:bz=false:=by rw[←HBZ.out,←HZ.out];unfold B.muxZ;rw[hmi];rfl
   have ha:at'=0:=by rw[←HAT.out];unfold B.Msg.muxP;rw[hmi]
   subst hb;have HA0:=hd' ha;clear hmi ha;go_wp2_with fail;go_meet
   case rel=>exact⟨by rw[HA0.out];rfl,Below.refl _ _⟩
  | some q=>
   have hz:z=(q:Int):=by rw[←HZ.out];unfold B.muxZ;rw[hmi]
   have hb:bz=true:=by rw[←HBZ.out,hz];simp
   obtain⟨s,hx,_⟩:=B.muxI_some hmi
   have ha:at'=s.one pay:=by
    rw[←HAT.out];unfold B.Msg.muxP;rw[hmi];simp only[hx]
   subst hb hz
   have hqn:q<n:=by have:=(List.getElem?_eq_some_iff.1 hx).1;have:=HN.out;omega
   obtain⟨b1,o1,a1,k1,c1,rfl,hl1,hrow,_,_⟩:=HS.out.get hx;have hrr:=cells_below hrow HB1.out hl1;have hone:=HONE.out s (List.mem_of_getElem? hx) (.slice a1 k1 c1) w1 HB1.out;have HA1:=hd' ha
   have q0:(0:Int)≤(q:Int):=by omega
   have q1:(q:Int)<n:=by omega
   clear hmi ha hx hrow hl1 hqn
   go_wp2_with (first
    | refine wpList_load_mid (by rfl) 71 _ (by rfl) b1 (o1+q*19) (by rfl) (sigC s (.slice a1 k1 c1)).toList _ hrr Tryz.underlying71 (by rfl) (by rw[infoN71];rfl) ?_
    | (go_at_call 38;refine hone.mono ?_;rintro e wx ⟨rfl,hbx⟩))
   go_meet
   case rel=>exact⟨by rw[HA1.out],hbx⟩
 case rest=>
  obtain⟨rfl,hbc⟩:=hcut;obtain⟨w2,rfl⟩:∃x,x=wc:=⟨_,rfl⟩;have HB2:=hd' (HB1.out.trans (hbc.mono HB1.out.size));have HROW2:=hd' (HROW.out.low hbc HROW.out.blk);clear hbc k7 e0 HROW HB1;go_wp2_with fail
  go_loopw [8,9,10] (fun l1 l2 i wr=>∃(k d1 d2:Nat) (r1 r2:Option Addr),k≤n∧i= .int .i64 (k:Int)∧l1= .slice r1 k d1∧l2= .slice r2 k d2∧Hid (One.OwnV 49 wr w2.heap.size r1 k d1 (((m.sigs.take k).map fun s=>if s.active at'=true then s.one pay else 0).map u64V)∧One.OwnV 4 wr w2.heap.size r2 k d2 (((m.sigs.take k).map (·.active at')).map Value.bool)∧Below w2.heap.size w2 wr)) (fun _ _ i _=>n-(intOf i).toNat)
  case atStart=>exact⟨0,0,0,none,none,by omega,rfl,rfl,rfl,hd' ⟨by simp;exact One.OwnV.nil _ _ _,by simp;exact One.OwnV.nil _ _ _,Below.refl _ _⟩⟩
  case round=>
   obtain⟨k,d1,d2,r1,r2,hk,rfl,rfl,rfl,HI⟩:=hrel;have k7:wr.cell? ⟨w.heap.size,7,none⟩=some (.slice sa n cap):=(HROW2.out.low HI.out.2.2 HROW2.out.blk).cell (j:=7) rfl
   by_cases hlt:k<n
   ·have e1:((k:Int)<(n:Int))=True:=by simp;omega
    have q0:(0:Int)≤(k:Int):=by omega
    have q1:(k:Int)<n:=by omega
    have hx:m.sigs[k]? =some (m.sigs[k]'(by have:=HN.out;omega)):=List.getElem?_eq_getElem _;generalize m.sigs[k]'(by have:=HN.out;omega)=s at hx;obtain⟨b1,o1,a1,k1,c1,rfl,hl1,hrow,_,_⟩:=HS.out.get hx;have HBWR:=hd' (HB2.out.trans (HI.out.2.2.mono HB2.out.size));have hrr:=cells_below hrow HBWR.out hl1;have HOT:=hd' (show((m.sigs.take (k+1)).map fun s=>if s.active at'=true then s.one pay else 0).map u64V=((m.sigs.take k).map fun s=>if s.active at'=true then s.one pay else 0).map u64V++[u64V (if s.active at'=true then s.one pay else 0)] by rw[map_take_next _ hx,List.map_append];rfl);have HHT:=hd' (show((m.sigs.take (k+1)).map (·.active at')).map Value.bool=((m.sigs.take k).map (·.active at')).map Value.bool++[Value.bool (s.active at')] by rw[map_take_next _ hx,List.map_append];rfl)
    have HON:Hid (∀wx,Below w2.heap.size w2 wx→Calls Tryz.prog 38 #[.agg (sigC s (.slice a1 k1 c1)),.slice pa pn pc] wx (fun e w'=>e= .returned (.int .u64 ((s.one pay:Nat):Int))∧Below wx.heap.size wx w')):=hd' (fun wx hb=>HONE.out s (List.mem_of_getElem? hx) _ wx (HB2.out.trans (hb.mono HB2.out.size)));have HAC:=hd' (fun wx=>ractive_any s (.slice a1 k1 c1) at' wx);clear hx hrow hl1
    go_upto_region 11 with(first
     | refine wpList_load_mid (by rfl) 71 _ (by rfl) b1 (o1+k*19) (by rfl) (sigC s (.slice a1 k1 c1)).toList _ hrr Tryz.underlying71 (by rfl) (by rw[infoN71];rfl) ?_
     | (refine wpList_store_mid (by rfl) 71 _ _ (by rfl) wr.heap.size 0 (sigC s (.slice a1 k1 c1)) (by rfl) (by rfl) (there_alloc _ _ _ (by rfl)) (by rw[infoN71];rfl) (ones_sig _ _ _ _) ?_;generalize hw4:World.setCells _ _ _ _=w4))
    obtain⟨X,hX⟩:∃X,wr.heap.size=X:=⟨_,rfl⟩
    have hb4:Below wr.heap.size wr w4:=by
     rw[←hw4];exact((Below.refl _ _).alloc (lR' _) _).grown (grownBy_setCells _ _ _ _) (by simp) (fun k hk=>by cases hk;exact lR' _)
    have hrow4:RC w4 X 71 19 (sigC s (.slice a1 k1 c1)):=by rw[←hw4,←hX];exact RC.over _ _ _ _ (by rfl) rfl
    have HXw4:=hd' hrow4;have HB4:=hd' (HI.out.2.2.trans (hb4.mono HI.out.2.2.size));have HO4:=hd' (HI.out.1.kept hb4);have HH4:=hd' (HI.out.2.1.kept hb4);rw[hX];clear hX hw4 hb4 hrow4 hrr k7 HI HBWR
    cases hac:s.active at' with
    | true=>
     rw[hac]at HAC HOT HHT;rw[if_pos rfl]at HOT;clear hac;have hrxw4:=RC.range (HXw4.out)
     go_wp2_with (first
      | refine wpList_load_mid (by rfl) 71 _ (by rfl) X 0 (by rfl) (sigC s (.slice a1 k1 c1)).toList _ hrxw4 Tryz.underlying71 (by rfl) (by rw[infoN71];rfl) ?_
      | fail)
     refine(HAC.out w4).mono ?_;rintro e w5 ⟨rfl,hbw5⟩;have HXw5:=hd' (HXw4.out.low hbw5 HXw4.out.blk);clear hrxw4;have HB5:=hd' (HB4.out.trans (hbw5.mono HB4.out.size));have HO5:=hd' (HO4.out.kept hbw5);have HH5:=hd' (HH4.out.kept hbw5);clear hbw5;have hrx5:=RC.range (HXw5.out)
     go_upto_region 14 with(first
      | refine wpList_load_mid (by rfl) 71 _ (by rfl) X 0 (by rfl) (sigC s (.slice a1 k1 c1)).toList _ hrx5 Tryz.underlying71 (by rfl) (by rw[infoN71];rfl) ?_
      | (go_at_call 38;refine(HON.out w5 HB5.out).mono ?_;rintro e w6 ⟨rfl,hbw6⟩))
     have HB6:=hd' (HB5.out.trans (hbw6.mono HB5.out.size));have HO6:=hd' (HO5.out.kept hbw6);have HH6:=hd' (HH5.out.kept hbw6);have HXw6:=hd' (HXw5.out.low hbw6 HXw5.out.blk);clear hrx5 hbw6;have hz6:w2.heap.size≤w6.heap.size:=HB6.out.size;clear HB5 HO5 HH5 HXw5 HB4 HO4 HH4 HXw4
     go_upto_region 15 with(at_builtin;refine One.app_one Tryz.underlying29 infoSl (by rfl) rfl _ _ rfl w2.heap.size rfl HO6.out (by rfl) rfl (by omega) (by omega) hz6 ?_;intro ao7 cap7 w7 hown7 hkeep7 _ hb7)
     have HO7:=hd' hown7;have HH7:=hd' (keepOther (E:=4) (E':=49) HH6.out HO6.out (by decide) hkeep7);have HXw7:=hd' (keepRow (T:=71) (E:=49) HXw6.out HO6.out (by decide) hkeep7);have HB7:=hd' (HB6.out.trans hb7);clear hown7 hkeep7 hb7 hz6 HO6 HH6 HXw6 HB6;have hrxw7:=RC.range (HXw7.out)
     go_wp2_with (first
      | refine wpList_load_mid (by rfl) 71 _ (by rfl) X 0 (by rfl) (sigC s (.slice a1 k1 c1)).toList _ hrxw7 Tryz.underlying71 (by rfl) (by rw[infoN71];rfl) ?_
      | fail)
     refine(HAC.out w7).mono ?_;rintro e w8 ⟨rfl,hbw8⟩;have HXw8:=hd' (HXw7.out.low hbw8 HXw7.out.blk);clear hrxw7;have HB8:=hd' (HB7.out.trans (hbw8.mono HB7.out.size));have HO8:=hd' (HO7.out.kept hbw8);have HH8:=hd' (HH7.out.kept hbw8);have hz8:w2.heap.size≤w8.heap.size:=HB8.out.size;clear hbw8 HB7 HO7 HH7 HXw7
     go_upto_region 9 with(at_builtin;refine One.app_one Tryz.underlying39 infoBo (by rfl) rfl _ _ rfl w2.heap.size rfl HH8.out (by rfl) rfl (by omega) (by omega) hz8 ?_;intro ao9 cap9 w9 hown9 hkeep9 _ hb9)
     have HH9:=hd' hown9;have HO9:=hd' (keepOther (E:=49) (E':=4) HO8.out HH8.out (by decide) hkeep9);have HB9:=hd' (HB8.out.trans hb9);clear hown9 hkeep9 hb9 hz8 HO8 HH8 HXw8 HB8;go_wp2_with fail;go_roundw
     case rel=>
      refine⟨k+1,cap7,cap9,ao7,ao9,by omega,by go_num,rfl,rfl,hd' ⟨?_, ?_,HB9.out⟩⟩
      ·rw[HOT.out]
       exact HO9.out
      ·rw[HHT.out]
       exact HH9.out
     case measure=>simp[intOf];omega
    | false=>
     rw[hac]at HAC HOT HHT;rw[if_neg (by simp)]at HOT;clear hac;have hrxw4:=RC.range (HXw4.out)
     go_wp2_with (first
      | refine wpList_load_mid (by rfl) 71 _ (by rfl) X 0 (by rfl) (sigC s (.slice a1 k1 c1)).toList _ hrxw4 Tryz.underlying71 (by rfl) (by rw[infoN71];rfl) ?_
      | fail)
     refine(HAC.out w4).mono ?_;rintro e w5 ⟨rfl,hbw5⟩;have HXw5:=hd' (HXw4.out.low hbw5 HXw4.out.blk);clear hrxw4;have HB5:=hd' (HB4.out.trans (hbw5.mono HB4.out.size));have HO5:=hd' (HO4.out.kept hbw5);have HH5:=hd' (HH4.out.kept hbw5);clear hbw5
     go_upto_region 14 with fail
     obtain⟨w6,rfl⟩:∃x,x=w5:=⟨_,rfl⟩;have HB6:=hd' HB5.out;have HO6:=hd' HO5.out;have HH6:=hd' HH5.out;have HXw6:=hd' HXw5.out;have hz6:w2.heap.size≤w6.heap.size:=HB6.out.size;clear HB5 HO5 HH5 HXw5 HB4 HO4 HH4 HXw4
     go_upto_region 15 with(at_builtin;refine One.app_one Tryz.underlying29 infoSl (by rfl) rfl _ _ rfl w2.heap.size rfl HO6.out (by rfl) rfl (by omega) (by omega) hz6 ?_;intro ao7 cap7 w7 hown7 hkeep7 _ hb7)
     have HO7:=hd' hown7;have HH7:=hd' (keepOther (E:=4) (E':=49) HH6.out HO6.out (by decide) hkeep7);have HXw7:=hd' (keepRow (T:=71) (E:=49) HXw6.out HO6.out (by decide) hkeep7);have HB7:=hd' (HB6.out.trans hb7);clear hown7 hkeep7 hb7 hz6 HO6 HH6 HXw6 HB6;have hrxw7:=RC.range (HXw7.out)
     go_wp2_with (first
      | refine wpList_load_mid (by rfl) 71 _ (by rfl) X 0 (by rfl) (sigC s (.slice a1 k1 c1)).toList _ hrxw7 Tryz.underlying71 (by rfl) (by rw[infoN71];rfl) ?_
      | fail)
     refine(HAC.out w7).mono ?_;rintro e w8 ⟨rfl,hbw8⟩;have HXw8:=hd' (HXw7.out.low hbw8 HXw7.out.blk);clear hrxw7;have HB8:=hd' (HB7.out.trans (hbw8.mono HB7.out.size));have HO8:=hd' (HO7.out.kept hbw8);have HH8:=hd' (HH7.out.kept hbw8);have hz8:w2.heap.size≤w8.heap.size:=HB8.out.size;clear hbw8 HB7 HO7 HH7 HXw7
     go_upto_region 9 with(at_builtin;refine One.app_one Tryz.underlying39 infoBo (by rfl) rfl _ _ rfl w2.heap.size rfl HH8.out (by rfl) rfl (by omega) (by omega) hz8 ?_;intro ao9 cap9 w9 hown9 hkeep9 _ hb9)
     have HH9:=hd' hown9;have HO9:=hd' (keepOther (E:=49) (E':=4) HO8.out HH8.out (by decide) hkeep9);have HB9:=hd' (HB8.out.trans hb9);clear hown9 hkeep9 hb9 hz8 HO8 HH8 HXw8 HB8;go_wp2_with fail;go_roundw
     case rel=>
      refine⟨k+1,cap7,cap9,ao7,ao9,by omega,by go_num,rfl,rfl,hd' ⟨?_, ?_,HB9.out⟩⟩
      ·rw[HOT.out]
       exact HO9.out
      ·rw[HHT.out]
       exact HH9.out
     case measure=>simp[intOf];omega
   ·obtain rfl:n=k:=by omega
    have e1:((n:Int)<(n:Int))=False:=by simp
    have HT:Hid (m.sigs.take n=m.sigs):=hd' (List.take_of_length_le (by rw[HN.out];exact lR' _));go_wp2_with fail;go_ret2;refine⟨r1,d1,r2,d2,rfl, ?_, ?_,HB2.out.trans (HI.out.2.2.mono HB2.out.size)⟩
    ·have h:=HI.out.1
     rw[HT.out]at h;exact h.weaken HB2.out.size
    ·have h:=HI.out.2.1
     rw[HT.out]at h;exact h.weaken HB2.out.size
end Code
end Go.Proofs.YtljhklblbafjkaaGreatDoor
namespace Go.Proofs.YtljhklblbafjkaaGreatDoor
open Go.RowKit
namespace B
theorem testBit_and(v k:Nat):v/2^k&&&1=if v.testBit k=true then 1 else 0:=by
 rw[Nat.and_one_is_mod,Nat.testBit_eq_decide_div_mod_eq];have:=Nat.mod_two_eq_zero_or_one (v/2^k)
 rcases this with h | h<;>simp[h]
end B
namespace Code
attribute [local go_sem ↓] Go.wp_at_zero Go.wp_at_succ
def LaidTwo(r:Except Nat (List Nat))(w:World)(e:Ending)(w':World):Prop:=match r with
 | .error i=>e= .returned (.tuple #[.slice none 0 0,.int .i64 (i:Int)])∧Below w.heap.size w w'
 | .ok q=>∃a c,e= .returned (.tuple #[.slice a q.length c,.int .i64 (-1)])∧ListAt w' a q.length (q.map u8V)∧Below w.heap.size w w'
structure LayIn(P zz pcap N v k:Nat)(bs fin cur:List Nat)(w wr:World):Prop where
 grown:w.grownBy wr (some P)
 own:One.OwnV 5 wr N (some ⟨P,0,none⟩) zz pcap (cur.map u8V)
 bytes:B.Bytes cur
 rel:B.layL v k (bs.drop k) cur=fin
theorem u8w(n:Nat)(h:n<256):IntKind.u8.wrap (n:Int)=(n:Int):=by rw[IntKind.wrap_u8];omega
theorem pow8_le(k:Nat)(h:k<8):2^k≤128:=by
 have:(2:Nat)^k≤2^7:=Nat.pow_le_pow_right (by decide) (by omega);exact this
theorem grownBy_setP(w:World)(L o:Nat)(v:Value):w.grownBy (w.setCell ⟨L,o,none⟩ v) (some L):=
 ⟨rfl,rfl,rfl,by simp[World.setCell],fun k _ hk=>Below.heap_setCell _ _ _ _ (fun e=>hk (by rw[e]))⟩
set_option maxRecDepth 100000 in
set_option maxHeartbeats 6400000 in
theorem rlaid_any(m:B.Msg)(sa:Option Addr)(n cap:Nat)(va:Option Addr)(vc zz:Nat)(inp:List Nat)(w:World)(hok:m.Ok)(hs:SigsAt w sa n m.sigs)(hz0:(zz:Int)=m.size)(hv:ListAt w va n (inp.map u64V))(hwi:B.Words inp):
    Calls Tryz.prog 41 #[.agg (msgC m (.slice sa n cap)),.slice va n vc] w (LaidTwo (B.laidL inp (m.muxV inp) 0 m.sigs (List.replicate zz 0)) w):=by
 have hn:=hs.len
 have hn64:n≤64:=by rw[hn];exact hok.count
 have hz8:zz≤8:=by have:=hok.size;omega
 have hrow:=RC.new (msgC m (.slice sa n cap)) 27 w (n:=8) rfl rfl;have hbel:Below w.heap.size w (w.alloc (.cells (msgC m (.slice sa n cap)) 27)):=(Below.refl _ _).alloc (lR' _) _;obtain⟨w1,hw1⟩:∃w1,w.alloc (.cells (msgC m (.slice sa n cap)) 27)=w1:=⟨_,rfl⟩;rw[hw1]at hrow hbel;have HROW:=hd' hrow;have HB1:=hd' hbel;have k7:w1.cell? ⟨w.heap.size,7,none⟩=some (.slice sa n cap):=hrow.cell (j:=7) rfl;have hmx:=rmux_any sa n cap n m.sigs w1 (hs.below hbel (lR' _)) (lR' _) (by omega);rw[List.take_of_length_le (by rw[hn];exact lR' _)]at hmx;have HS:=hd' hs;have HN:=hd' hn;have HV:=hd' hv;have HWI:=hd' hwi;have HOK:=hd' hok;have HZZ:=hd' hz0
 have hvl:n=inp.length:=by have:=hv.len;simpa using this
 have HVL:=hd' hvl;obtain⟨z,hz⟩:∃z,B.muxZ m.sigs=z:=⟨_,rfl⟩;rw[hz]at hmx;have HZ:=hd' hz;obtain⟨at',hat⟩:∃a,m.muxV inp=a:=⟨_,rfl⟩;rw[hat];have HAT:=hd' hat;obtain⟨bz,hbz⟩:∃b,decide (0≤z)=b:=⟨_,rfl⟩
 have e0:(z≥0)=(bz=true):=by rw[←hbz];simp
 have HBZ:=hd' hbz;obtain⟨ans,hans⟩:∃r,B.laidL inp at' 0 m.sigs (List.replicate zz 0)=r:=⟨_,rfl⟩;rw[hans];have HA:=hd' hans;clear hrow hbel hs hn hok hv hwi hz hat hbz hz0 hvl hans;go_enter Tryz.func41,Tryz.ntmps41
 go_upto_region 1 with fail
 try rw[hw1]
 clear hw1;go_wp2_with fail;refine hmx.mono ?_;rintro e wm ⟨rfl,rfl⟩;clear hmx
 go_upto_if 22 with fail
 go_cut [7]from 23 to 26 (fun p wx=>p= .int .u64 (at':Int)∧Below w1.heap.size w1 wx)
 case first=>
  cases hmi:B.muxI m.sigs with
  | none=>
   have hb:bz=false:=by rw[←HBZ.out,←HZ.out];unfold B.muxZ;rw[hmi];rfl
   have ha:at'=0:=by rw[←HAT.out];unfold B.Msg.muxV;rw[hmi]
   subst hb;have HA0:=hd' ha;clear hmi ha;go_wp2_with fail;go_meet
   case rel=>exact⟨by rw[HA0.out];rfl,Below.refl _ _⟩
  | some q=>
   have hz:z=(q:Int):=by rw[←HZ.out];unfold B.muxZ;rw[hmi]
   have hb:bz=true:=by rw[←HBZ.out,hz];simp
   obtain⟨s,hx,_⟩:=B.muxI_some hmi
   have ha:at'=inp.getD q 0:=by
    rw[←HAT.out];unfold B.Msg.muxV;rw[hmi]
   subst hb hz
   have hqn:q<n:=by have:=(List.getElem?_eq_some_iff.1 hx).1;have:=HN.out;omega
   have hvx:inp[q]? =some at':=by rw[ha,List.getD_eq_getElem?_getD,List.getElem?_eq_getElem (by have:=HVL.out;omega)];rfl
   obtain⟨vb,vo,rfl,hlv,hcv⟩:=HV.out.at_ q (u64V at') (by rw[List.getElem?_map,hvx];rfl);unfold u64V at hcv;have cv:w1.cell? ⟨vb,vo+q,none⟩=some (.int .u64 (at':Int)):=(HB1.out.cell (p:=⟨vb,vo+q,none⟩) hlv).trans hcv
   have q0:(0:Int)≤(q:Int):=by omega
   have q1:(q:Int)<n:=by omega
   clear hmi ha hx hqn hvx hlv hcv;go_wp2_with fail;go_meet
   case rel=>exact⟨rfl,Below.refl _ _⟩
 case rest=>
  obtain⟨rfl,hbc⟩:=hcut;obtain⟨w2,rfl⟩:∃x,x=wc:=⟨_,rfl⟩;have HB2:=hd' (HB1.out.trans (hbc.mono HB1.out.size));have HROW2:=hd' (HROW.out.low hbc HROW.out.blk);have HXW:Hid (w.heap.size<w2.heap.size):=hd' (Nat.lt_of_lt_of_le HROW.out.blk hbc.size);clear hbc k7 e0 HROW HB1;go_wp2_with fail
  go_loopw [8,9] (fun l i wr=>∃(k d:Nat) (r:Option Addr),k≤zz∧i= .int .i64 (k:Int)∧l= .slice r k d∧Hid (One.OwnV 5 wr w2.heap.size r k d ((List.replicate k 0).map u8V)∧Below w2.heap.size w2 wr)) (fun _ i _=>zz-(intOf i).toNat)
  case atStart=>exact⟨0,0,none,by omega,rfl,rfl,hd' ⟨One.OwnV.nil _ _ _,Below.refl _ _⟩⟩
  case round=>
   obtain⟨k,d,r,hk,rfl,rfl,HI⟩:=hrel
   have k5:wr.cell? ⟨w.heap.size,5,none⟩=some (.int .i64 (zz:Int)):=by rw[HZZ.out];exact(HROW2.out.low HI.out.2 HXW.out).cell (j:=5) rfl
   by_cases hlt:k<zz
   ·have e1:((k:Int)<(zz:Int))=True:=by simp;omega
    have hz2:w2.heap.size≤wr.heap.size:=HI.out.2.size
    go_upto_region 8 with(at_builtin;refine One.app_one Tryz.underlying28 infoSz (by rfl) rfl _ _ rfl w2.heap.size rfl HI.out.1 (by rfl) rfl (by omega) (by omega) hz2 ?_;intro ao7 cap7 w7 hown7 _ _ hb7)
    have HO7:=hd' hown7;have HB7:=hd' (HI.out.2.trans hb7);clear hown7 hb7 hz2 k5;go_wp2_with fail;go_roundw
    case rel=>
     refine⟨k+1,cap7,ao7,by omega,by go_num,rfl,hd' ⟨?_,HB7.out⟩⟩;have h:=HO7.out;rw[List.replicate_succ',List.map_append];exact h
    case measure=>simp[intOf];omega
   ·obtain rfl:zz=k:=by omega
    have e1:((zz:Int)<(zz:Int))=False:=by simp
    have HO3:=hd' HI.out.1;have HB3:=hd' HI.out.2;clear HI hk;go_wp2_with fail;clear k5 e1
    go_loopw [10] (fun i wr=>∃(k:Nat) (cur:List Nat),k≤n∧i= .int .i64 (k:Int)∧Hid (One.OwnV 5 wr w2.heap.size r zz d (cur.map u8V)∧Below w2.heap.size w2 wr∧B.Bytes cur∧B.laidL inp at' k (m.sigs.drop k) cur=ans)) (fun i _=>n-(intOf i).toNat)
    case atStart=>exact⟨0,List.replicate zz 0,by omega,rfl,hd' ⟨HO3.out,HB3.out,fun x hx=>by rw[List.eq_of_mem_replicate hx];decide,HA.out⟩⟩
    case round=>
     obtain⟨k,cur,hk,rfl,HI⟩:=hrel;clear HO3 HB3;have k7:wr.cell? ⟨w.heap.size,7,none⟩=some (.slice sa n cap):=(HROW2.out.low HI.out.2.1 HXW.out).cell (j:=7) rfl
     by_cases hlt:k<n
     ·have e1:((k:Int)<(n:Int))=True:=by simp;omega
      have q0:(0:Int)≤(k:Int):=by omega
      have q1:(k:Int)<n:=by omega
      have hx:m.sigs[k]? =some (m.sigs[k]'(by have:=HN.out;omega)):=List.getElem?_eq_getElem _;have hdrop:=List.drop_eq_getElem_cons (l:=m.sigs) (i:=k) (by have:=HN.out;omega);generalize m.sigs[k]'(by have:=HN.out;omega)=s at hx hdrop;obtain⟨b1,o1,a1,k1,c1,rfl,hl1,hrow,_,_⟩:=HS.out.get hx;have HBWR:=hd' (HB2.out.trans (HI.out.2.1.mono HB2.out.size));have hrr:=cells_below hrow HBWR.out hl1;have hst:=HI.out.2.2.2;rw[hdrop,B.laidL]at hst;obtain⟨hpl,hin⟩:=HOK.out.seat (List.mem_of_getElem? hx);have hsz:=(B.Sig.place_ok hpl).1;obtain⟨L,hL⟩:∃L:Nat,s.size=(L:Int):=⟨s.size.toNat,by omega⟩
      have hbl:s.bits.length=L:=by rw[s.bits_length,hL,Int.toNat_natCast]
      obtain⟨P,rfl⟩:∃P,r=some ⟨P,0,none⟩:=by
       rcases HI.out.1.form with⟨_,h,_⟩ | ⟨g,h,_⟩
       ·exfalso
        have hb0:s.bits[0]? =some (s.bits[0]'(by omega)):=List.getElem?_eq_getElem _;have:=hin _ (List.mem_of_getElem? hb0);have:=HZZ.out;omega
       ·exact⟨g,h⟩
      have HPB:Hid (w2.heap.size≤P):=hd' (by
       rcases HI.out.1.form with⟨h,_⟩ | ⟨g,h,h1,_⟩
       ·cases h
       ·cases h;exact h1)
      have hcurl:=HI.out.1.len;rw[List.length_map]at hcurl;obtain⟨v,hvv⟩:∃v,inp.getD k 0=v:=⟨_,rfl⟩
      have hvk:inp[k]? =some v:=by rw[←hvv,List.getD_eq_getElem?_getD,List.getElem?_eq_getElem (by have:=HVL.out;omega)];rfl
      obtain⟨vb,vo,rfl,hlv,hcv⟩:=HV.out.at_ k (u64V v) (by rw[List.getElem?_map,hvk];rfl);unfold u64V at hcv;have HVV:=hd' (HWI.out v (List.mem_of_getElem? hvk));have HCV:=hd' (fun(wz:World) (h:Below w.heap.size w wz)=>(h.cell (p:=⟨vb,vo+k,none⟩) hlv).trans hcv);rw[hvv,hL,Int.toNat_natCast]at hst;have HSL:=hd' hL;have HBL:=hd' hbl;have HPL:=hd' hpl;have HIN:Hid (∀b∈s.bits,b<8*zz):=hd' (fun b hb=>by have:=hin b hb;have:=HZZ.out;omega);have HFT0:=hd' (fun wz=>rfits_any v L s.signed wz (by omega) (by omega) HVV.out);have HAC:=hd' (fun wx=>ractive_any s (.slice a1 k1 c1) at' wx);have HBT:=hd' (fun wx=>(rbits_any s (.slice a1 k1 c1) wx).mono (fun e w' (h:RBitsOut s wx e w')=>h.1 hpl))
      have hL64:L≤64:=by omega
      have hL1:1≤L:=by omega
      clear hx hdrop hrow hl1 hpl hin hsz hL hbl hcurl hvv hvk hlv hcv
      go_upto_region 14 with(first
       | refine wpList_load_mid (by rfl) 71 _ (by rfl) b1 (o1+k*19) (by rfl) (sigC s (.slice a1 k1 c1)).toList _ hrr Tryz.underlying71 (by rfl) (by rw[infoN71];rfl) ?_
       | (refine wpList_store_mid (by rfl) 71 _ _ (by rfl) wr.heap.size 0 (sigC s (.slice a1 k1 c1)) (by rfl) (by rfl) (there_alloc _ _ _ (by rfl)) (by rw[infoN71];rfl) (ones_sig _ _ _ _) ?_;generalize hw4:World.setCells _ _ _ _=w4))
      obtain⟨X,hX⟩:∃X,wr.heap.size=X:=⟨_,rfl⟩
      have hb4:Below wr.heap.size wr w4:=by
       rw[←hw4];exact((Below.refl _ _).alloc (lR' _) _).grown (grownBy_setCells _ _ _ _) (by simp) (fun k hk=>by cases hk;exact lR' _)
      have hrow4:RC w4 X 71 19 (sigC s (.slice a1 k1 c1)):=by rw[←hw4,←hX];exact RC.over _ _ _ _ (by rfl) rfl
      have HXw4:=hd' hrow4;have HB4:=hd' (HI.out.2.1.trans (hb4.mono HI.out.2.1.size));have HO4:=hd' (HI.out.1.kept hb4);have HCB:=hd' HI.out.2.2.1;rw[hX];clear hX hw4 hb4 hrow4 hrr k7 HI HBWR;have hrx4:=RC.range (HXw4.out)
      go_wp2_with (first
       | refine wpList_load_mid (by rfl) 71 _ (by rfl) X 0 (by rfl) (sigC s (.slice a1 k1 c1)).toList _ hrx4 Tryz.underlying71 (by rfl) (by rw[infoN71];rfl) ?_
       | fail)
      refine(HAC.out w4).mono ?_;rintro e w5 ⟨rfl,hbw5⟩;have HXw5:=hd' (HXw4.out.low hbw5 HXw4.out.blk);have HB5:=hd' (HB4.out.trans (hbw5.mono HB4.out.size));have HO5:=hd' (HO4.out.kept hbw5);clear hbw5 hrx4 HXw4 HB4 HO4
      cases hac:s.active at' with
      | false=>
       rw[if_neg (by rw[hac];simp)]at hst;have HNX:Hid (One.OwnV 5 w5 w2.heap.size (some ⟨P,0,none⟩) zz d (cur.map u8V)∧Below w2.heap.size w2 w5∧B.Bytes cur∧B.laidL inp at' (k+1) (m.sigs.drop (k+1)) cur=ans):=hd' ⟨HO5.out,HB5.out,HCB.out,hst⟩;clear hst hac;go_wp2_with fail;go_roundw
       case rel=>exact⟨k+1,cur,by omega,by go_num,HNX⟩
       case measure=>simp[intOf];omega
      | true=>
       rw[if_pos hac]at hst;have HBW5:=hd' (HB2.out.trans (HB5.out.mono HB2.out.size));clear hac
       go_upto_region 15 with fail
       cases hft:B.fits v L s.signed with
       | false=>
        rw[if_neg (by rw[hft];simp)]at hst;have HE:=hd' hst.symm;have HFT:Hid (∀wz,Calls Tryz.prog 67 #[.int .u64 (v:Int),.int .i64 (L:Int),.bool s.signed] wz (fun e w'=>e= .returned (.bool false)∧wz=w')):=hd' (fun wz=>by have h:=HFT0.out wz;unfold FitsOut at h;rw[hft]at h;exact h);clear hst hft HFT0;refine wp_region_held_drew (S:=Below w5.heap.size w5) (by kernel_rfl) (Below.refl _ _).drew (fun hS1=> ?_);refine takeS (i:=0) (d:=52) (v:=.slice (some ⟨vb,vo,none⟩) n vc) rfl rfl rfl (by kernel_rfl) (by kernel_rfl) (by kernel_rfl) (fun _ _ _ h=>h) (fun w' h=>by go_simp) hS1 ?_
        try simp only[Act.put,sA',sZ',sS']
        refine takeS (i:=1) (d:=53) (v:=.int .i64 (k:Int)) rfl rfl rfl (by kernel_rfl) (by kernel_rfl) (by kernel_rfl) (fun _ _ _ h=>h) (fun w' h=>by go_simp) hS1 ?_
        try simp only[Act.put,sA',sZ',sS']
        refine takeS (i:=2) (d:=54) (v:=.pointer (some ⟨vb,vo+k,none⟩)) rfl rfl rfl (by kernel_rfl) (by kernel_rfl) (by kernel_rfl) (fun _ _ _ h=>h) (fun w' h=>by go_simp) hS1 ?_
        try simp only[Act.put,sA',sZ',sS']
        refine takeS (i:=3) (d:=55) (v:=.int .u64 (v:Int)) rfl rfl rfl (by kernel_rfl) (by kernel_rfl) (by kernel_rfl) (fun _ _ _ h=>h) (fun w' h=>by(have c:=HCV.out _ (HBW5.out.trans (h.mono HBW5.out.size));go_simp)) hS1 ?_
        try simp only[Act.put,sA',sZ',sS']
        refine takeS (i:=4) (d:=56) (v:=.pointer (some ⟨X,6,none⟩)) rfl rfl rfl (by kernel_rfl) (by kernel_rfl) (by kernel_rfl) (fun _ _ _ h=>h) (fun w' h=>by go_simp) hS1 ?_
        try simp only[Act.put,sA',sZ',sS']
        refine takeS (i:=5) (d:=57) (v:=.int .i64 (L:Int)) rfl rfl rfl (by kernel_rfl) (by kernel_rfl) (by kernel_rfl) (fun _ _ _ h=>h) (fun w' h=>by(have c:=(show w'.cell? ⟨X,6,none⟩=some (.int .i64 (L:Int)) by rw[←HSL.out];exact(HXw5.out.low h HXw5.out.blk).cell (j:=6) rfl);go_simp)) hS1 ?_
        try simp only[Act.put,sA',sZ',sS']
        refine takeS (i:=6) (d:=58) (v:=.pointer (some ⟨X,8,none⟩)) rfl rfl rfl (by kernel_rfl) (by kernel_rfl) (by kernel_rfl) (fun _ _ _ h=>h) (fun w' h=>by go_simp) hS1 ?_
        try simp only[Act.put,sA',sZ',sS']
        refine takeS (i:=7) (d:=59) (v:=.bool s.signed) rfl rfl rfl (by kernel_rfl) (by kernel_rfl) (by kernel_rfl) (fun _ _ _ h=>h) (fun w' h=>by(have c:=(HXw5.out.low h HXw5.out.blk).cell (j:=8) (v:=.bool s.signed) rfl;go_simp)) hS1 ?_
        try simp only[Act.put,sA',sZ',sS']
        refine wpAnyH_ready (rs:=[8]) (by kernel_rfl) (by simp) ?_;refine AllReadyH.cons rfl (fun K hK=> ?_) AllReadyH.nil;go_simp;refine(HFT.out _).mono ?_;rintro e y1 ⟨rfl,rfl⟩;refine hK.out _ _ hS1 (fun hS2=> ?_);clear hK K
        try simp only[Act.put,List.getElem_toArray,List.getElem_cons_succ,List.getElem_cons_zero,sA',sZ',sS']
        refine takeS (i:=9) (d:=61) (v:=.bool true) rfl rfl rfl (by kernel_rfl) (by kernel_rfl) (by kernel_rfl) (fun _ _ _ h=>h) (fun w' h=>by go_simp) hS2 ?_
        try simp only[Act.put,sA',sZ',sS']
        refine wpAnyH_done (by kernel_rfl) ?_ _;obtain⟨w6,hyy⟩:∃y,w5.drew=y:=⟨_,rfl⟩;rw[hyy]at hS1⊢;have HB6:=hd' (HB5.out.trans (hS1.mono HB5.out.size));have HO6:=hd' (HO5.out.kept hS1);have HXw6:=hd' (HXw5.out.low hS1 HXw5.out.blk);clear hyy hS1 hS2;go_wp2_with fail;go_ret2;rw[HE.out];exact⟨rfl,HB2.out.trans (HB6.out.mono HB2.out.size)⟩
       | true=>
        rw[if_pos hft]at hst;have HSTEP0:=hd' hst;have HFT:Hid (∀wz,Calls Tryz.prog 67 #[.int .u64 (v:Int),.int .i64 (L:Int),.bool s.signed] wz (fun e w'=>e= .returned (.bool true)∧wz=w')):=hd' (fun wz=>by have h:=HFT0.out wz;unfold FitsOut at h;rw[hft]at h;exact h);clear hst hft HFT0;refine wp_region_held_drew (S:=Below w5.heap.size w5) (by kernel_rfl) (Below.refl _ _).drew (fun hS1=> ?_);refine takeS (i:=0) (d:=52) (v:=.slice (some ⟨vb,vo,none⟩) n vc) rfl rfl rfl (by kernel_rfl) (by kernel_rfl) (by kernel_rfl) (fun _ _ _ h=>h) (fun w' h=>by go_simp) hS1 ?_
        try simp only[Act.put,sA',sZ',sS']
        refine takeS (i:=1) (d:=53) (v:=.int .i64 (k:Int)) rfl rfl rfl (by kernel_rfl) (by kernel_rfl) (by kernel_rfl) (fun _ _ _ h=>h) (fun w' h=>by go_simp) hS1 ?_
        try simp only[Act.put,sA',sZ',sS']
        refine takeS (i:=2) (d:=54) (v:=.pointer (some ⟨vb,vo+k,none⟩)) rfl rfl rfl (by kernel_rfl) (by kernel_rfl) (by kernel_rfl) (fun _ _ _ h=>h) (fun w' h=>by go_simp) hS1 ?_
        try simp only[Act.put,sA',sZ',sS']
        refine takeS (i:=3) (d:=55) (v:=.int .u64 (v:Int)) rfl rfl rfl (by kernel_rfl) (by kernel_rfl) (by kernel_rfl) (fun _ _ _ h=>h) (fun w' h=>by(have c:=HCV.out _ (HBW5.out.trans (h.mono HBW5.out.size));go_simp)) hS1 ?_
        try simp only[Act.put,sA',sZ',sS']
        refine takeS (i:=4) (d:=56) (v:=.pointer (some ⟨X,6,none⟩)) rfl rfl rfl (by kernel_rfl) (by kernel_rfl) (by kernel_rfl) (fun _ _ _ h=>h) (fun w' h=>by go_simp) hS1 ?_
        try simp only[Act.put,sA',sZ',sS']
        refine takeS (i:=5) (d:=57) (v:=.int .i64 (L:Int)) rfl rfl rfl (by kernel_rfl) (by kernel_rfl) (by kernel_rfl) (fun _ _ _ h=>h) (fun w' h=>by(have c:=(show w'.cell? ⟨X,6,none⟩=some (.int .i64 (L:Int)) by rw[←HSL.out];exact(HXw5.out.low h HXw5.out.blk).cell (j:=6) rfl);go_simp)) hS1 ?_
        try simp only[Act.put,sA',sZ',sS']
        refine takeS (i:=6) (d:=58) (v:=.pointer (some ⟨X,8,none⟩)) rfl rfl rfl (by kernel_rfl) (by kernel_rfl) (by kernel_rfl) (fun _ _ _ h=>h) (fun w' h=>by go_simp) hS1 ?_
        try simp only[Act.put,sA',sZ',sS']
        refine takeS (i:=7) (d:=59) (v:=.bool s.signed) rfl rfl rfl (by kernel_rfl) (by kernel_rfl) (by kernel_rfl) (fun _ _ _ h=>h) (fun w' h=>by(have c:=(HXw5.out.low h HXw5.out.blk).cell (j:=8) (v:=.bool s.signed) rfl;go_simp)) hS1 ?_
        try simp only[Act.put,sA',sZ',sS']
        refine wpAnyH_ready (rs:=[8]) (by kernel_rfl) (by simp) ?_;refine AllReadyH.cons rfl (fun K hK=> ?_) AllReadyH.nil;go_simp;refine(HFT.out _).mono ?_;rintro e y1 ⟨rfl,rfl⟩;refine hK.out _ _ hS1 (fun hS2=> ?_);clear hK K
        try simp only[Act.put,List.getElem_toArray,List.getElem_cons_succ,List.getElem_cons_zero,sA',sZ',sS']
        refine takeS (i:=9) (d:=61) (v:=.bool false) rfl rfl rfl (by kernel_rfl) (by kernel_rfl) (by kernel_rfl) (fun _ _ _ h=>h) (fun w' h=>by go_simp) hS2 ?_
        try simp only[Act.put,sA',sZ',sS']
        refine wpAnyH_done (by kernel_rfl) ?_ _;obtain⟨w6,hyy⟩:∃y,w5.drew=y:=⟨_,rfl⟩;rw[hyy]at hS1⊢;have HB6:=hd' (HB5.out.trans (hS1.mono HB5.out.size));have HO6:=hd' (HO5.out.kept hS1);have HXw6:=hd' (HXw5.out.low hS1 HXw5.out.blk);clear hyy hS1 hS2;have hrx6:=RC.range (HXw6.out);have hbt:=HBT.out w6;rw[HBL.out]at hbt
        go_upto_region 18 with(first
         | refine wpList_load_mid (by rfl) 71 _ (by rfl) X 0 (by rfl) (sigC s (.slice a1 k1 c1)).toList _ hrx6 Tryz.underlying71 (by rfl) (by rw[infoN71];rfl) ?_
         | (go_at_call 63;refine hbt.mono ?_;rintro e w7 ⟨go,bcap,rfl,hown,hbw7⟩))
        obtain⟨g,rfl,hgw⟩:∃g,go=some ⟨g,0,none⟩∧w6.heap.size≤g:=by
         rcases hown.form with⟨_,h,_⟩ | ⟨g,h,h1,_⟩
         ·exfalso
          omega
         ·exact⟨g,h,h1⟩
        have HPG:Hid (P<g):=hd' (by
         rcases HO6.out.form with⟨h,_⟩ | ⟨g',h,_,h1⟩
         ·cases h
         ·cases h;omega)
        have HOW:=hd' hown;have HB7:=hd' (HB6.out.trans (hbw7.mono HB6.out.size));have HO7:=hd' (HO6.out.kept hbw7);obtain⟨fin,hfin⟩:∃fin,B.layL v 0 s.bits cur=fin:=⟨_,rfl⟩;have HSTEP:Hid (B.laidL inp at' (k+1) (m.sigs.drop (k+1)) fin=ans):=hd' (by rw[←hfin];exact HSTEP0.out);have HL0:Hid (LayIn P zz d w2.heap.size v 0 s.bits fin cur w7 w7):=hd' ⟨World.grownBy.refl _ _,HO7.out,HCB.out,hfin⟩;clear hbt hrx6 hown hbw7 hgw hfin HSTEP0 HXw6 HXw5 HB6 HB5 HO6 HO5 HO7 HBW5;go_wp2_with fail
        go_loopw [14] (fun i wr=>∃j:Nat,j≤L∧i= .int .i64 (j:Int)∧∃cur2,Hid (LayIn P zz d w2.heap.size v j s.bits fin cur2 w7 wr)) (fun i _=>L-(intOf i).toNat)
        case atStart=>exact⟨0,by omega,rfl,cur,HL0⟩
        case round=>
         clear HL0;obtain⟨j,hj,rfl,cur2,HK⟩:=hrel
         by_cases hlj:j<L
         ·have e2:((j:Int)<(L:Int))=True:=by simp;omega
          have hb:s.bits[j]? =some (s.bits[j]'(by have:=HBL.out;omega)):=List.getElem?_eq_getElem _;have hdrop:=List.drop_eq_getElem_cons (l:=s.bits) (i:=j) (by have:=HBL.out;omega);generalize s.bits[j]'(by have:=HBL.out;omega)=b at hb hdrop;have hstep:=HK.out.rel;rw[hdrop,B.layL]at hstep;have HST:=hd' hstep;have hbz:=HIN.out b (List.mem_of_getElem? hb);have hcl:=HK.out.own.len;rw[List.length_map]at hcl;obtain⟨g',eg,hgg,hg2,hc⟩:=HOW.out.cell (i:=j) (v:=natV b) (by rw[List.getElem?_map,hb];rfl);injection eg with eg;injection eg with eg _ _;subst eg;unfold natV at hc
          have hgP:g≠P:=by have:=HPG.out;omega
          have hblk:=HK.out.grown.block g hg2 (fun e=>hgP (Option.some.inj e));have cb:wr.cell? ⟨g,j,none⟩=some (.int .i64 (b:Int)):=(World.cell?_of_block (a:=⟨g,j,none⟩) hblk).trans hc;have hb7r:Below w2.heap.size w7 wr:=(Below.refl _ _).grown HK.out.grown HB7.out.size (fun i hi=>by cases hi;exact HPB.out);have cv:wr.cell? ⟨vb,vo+k,none⟩=some (.int .u64 (v:Int)):=HCV.out _ (HB2.out.trans ((HB7.out.trans hb7r).mono HB2.out.size))
          have q2:(0:Int)≤(j:Int):=by omega
          have q3:(j:Int)<L:=by omega
          have q5:(j:Int)<64:=by omega
          have hte:(bits BinOp.and IntKind.u64 ((v:Int)/2^j) 1==1)=v.testBit j:=by
           have e:((v:Int)/2^j)=((v/2^j:Nat):Int):=by simp
           have h:=u64_and_nat (v/2^j) 1 (Nat.lt_of_le_of_lt (Nat.div_le_self _ _) HVV.out) (by omega);rw[B.testBit_and]at h;rw[e]
           show(bits BinOp.and IntKind.u64 ((v/2^j:Nat):Int) ((1:Nat):Int)==1)=_
           rw[h]
           cases v.testBit j<;>rfl
          clear hb hdrop hstep hg2 hc hblk hb7r hgg
          cases ht:v.testBit j with
          | false=>
           rw[ht]at hte;have HNXT:Hid (LayIn P zz d w2.heap.size v (j+1) s.bits fin cur2 w7 wr):=hd' ⟨HK.out.grown,HK.out.own,HK.out.bytes,by have h:=HST.out;rw[if_neg (by rw[ht];simp)]at h;exact h⟩;clear ht hbz hcl hgP cb;go_wp2_with fail;go_roundw
           case rel=>exact⟨j+1,by omega,by go_num,cur2,hd' HNXT.out⟩
           case measure=>simp[intOf];omega
          | true=>
           rw[ht]at hte;obtain⟨x,hxx⟩:∃x,cur2.getD (b/8) 0=x:=⟨_,rfl⟩
           have hx2:cur2[b/8]? =some x:=by rw[←hxx,List.getD_eq_getElem?_getD,List.getElem?_eq_getElem (by omega)];rfl
           have hx256:x<256:=HK.out.bytes x (List.mem_of_getElem? hx2);obtain⟨P',eP,_,_,hcx⟩:=HK.out.own.cell (i:=b/8) (v:=u8V x) (by rw[List.getElem?_map,hx2];rfl);injection eP with eP;injection eP with eP _ _;subst eP;unfold u8V at hcx;have hfz:=ownV_free HK.out.own (b/8)
           have q6:(0:Int)≤(b:Int)/8:=by omega
           have q7:(b:Int)/8<zz:=by omega
           have q8:((b:Int)/8).toNat=b/8:=by omega
           have q9:((b:Int)%8).toNat=b%8:=by omega
           have hpw:2^(b%8)<256:=Nat.lt_of_le_of_lt (pow8_le (b%8) (Nat.mod_lt _ (by decide))) (by decide)
           have hsh:IntKind.u8.wrap ((2:Int)^(b%8))=((2^(b%8):Nat):Int):=by rw[castpow];exact u8w _ hpw
           have hor:bits BinOp.or IntKind.u8 (x:Int) ((2:Int)^(b%8))=((x|||2^(b%8):Nat):Int):=by rw[castpow];exact u8_or_nat x (2^(b%8)) hx256 hpw
           have qa:IntKind.i64.wrap ((b:Int)/8)=(b:Int)/8:=by rw[IntKind.wrap_i64];omega
           have qb:(b:Int).tmod 8=(b:Int)%8:=Int.tmod_eq_emod_of_nonneg (by omega)
           have qc:IntKind.u64.wrap ((b:Int)%8)=(b:Int)%8:=by rw[IntKind.wrap_u64];omega
           have HBD:Hid (∀y,wr.drew=y→LayIn P zz d w2.heap.size v (j+1) s.bits fin (B.setBit cur2 b) w7 (y.setCell ⟨P,b/8,none⟩ (.int .u8 ((x|||2^(b%8):Nat):Int)))):=hd' (fun y hy=>by
            subst hy;have hd:Below wr.heap.size wr wr.drew:=(Below.refl _ _).drew;refine⟨?_, ?_,B.setBit_bytes HK.out.bytes b,by have h:=HST.out;rw[if_pos ht]at h;exact h⟩
            ·exact(HK.out.grown.trans (⟨rfl,rfl,rfl,lR' _,fun _ _ _=>rfl⟩:wr.grownBy wr.drew (some P))).trans (grownBy_setP _ _ _ _)
            ·unfold B.setBit
             rw[List.map_set,hxx]
             exact(HK.out.own.kept hd).put (b/8) (u8V (x|||2^(b%8))))
           have hSX:(wr.drew.setCell ⟨P,b/8,none⟩ (.int .u8 ((x|||2^(b%8):Nat):Int))).heap[g]? =wr.heap[g]? :=blk_other _ (by exact hgP);clear ht hbz hcl hxx hx2
           go_upto_region 22 with fail
           clear cv;have hg22:wr.drew.heap[g]? =wr.heap[g]? :=rfl;refine wp_region_held_drew (S:=fun w'=>w'.heap[g]? =wr.heap[g]?) (by kernel_rfl) hg22 (fun hS1=> ?_);refine takeS (i:=0) (d:=83) (v:=.slice (some ⟨P,0,none⟩) zz d) rfl rfl rfl (by kernel_rfl) (by kernel_rfl) (by kernel_rfl) (fun _ _ _ h=>h) (fun w' h=>by go_simp) hS1 ?_
           try simp only[Act.put,sA',sZ',sS']
           refine takeS (i:=1) (d:=84) (v:=.slice (some ⟨g,0,none⟩) L bcap) rfl rfl rfl (by kernel_rfl) (by kernel_rfl) (by kernel_rfl) (fun _ _ _ h=>h) (fun w' h=>by go_simp) hS1 ?_
           try simp only[Act.put,sA',sZ',sS']
           refine takeS (i:=2) (d:=85) (v:=.int .i64 (j:Int)) rfl rfl rfl (by kernel_rfl) (by kernel_rfl) (by kernel_rfl) (fun _ _ _ h=>h) (fun w' h=>by go_simp) hS1 ?_
           try simp only[Act.put,sA',sZ',sS']
           refine takeS (i:=3) (d:=86) (v:=.pointer (some ⟨g,j,none⟩)) rfl rfl rfl (by kernel_rfl) (by kernel_rfl) (by kernel_rfl) (fun _ _ _ h=>h) (fun w' h=>by go_simp) hS1 ?_
           try simp only[Act.put,sA',sZ',sS']
           refine takeS (i:=4) (d:=87) (v:=.int .i64 (b:Int)) rfl rfl rfl (by kernel_rfl) (by kernel_rfl) (by kernel_rfl) (fun _ _ _ h=>h) (fun w' h=>by(have c:=(World.cell?_of_block (a:=⟨g,j,none⟩) h).trans cb;go_simp)) hS1 ?_
           try simp only[Act.put,sA',sZ',sS']
           refine takeS (i:=5) (d:=88) (v:=.int .i64 ((b:Int)/8)) rfl rfl rfl (by kernel_rfl) (by kernel_rfl) (by kernel_rfl) (fun _ _ _ h=>h) (fun w' h=>by go_simp) hS1 ?_
           try simp only[Act.put,sA',sZ',sS']
           refine takeS (i:=6) (d:=89) (v:=.slice (some ⟨P,0,none⟩) zz d) rfl rfl rfl (by kernel_rfl) (by kernel_rfl) (by kernel_rfl) (fun _ _ _ h=>h) (fun w' h=>by go_simp) hS1 ?_
           try simp only[Act.put,sA',sZ',sS']
           refine takeS (i:=7) (d:=90) (v:=.slice (some ⟨g,0,none⟩) L bcap) rfl rfl rfl (by kernel_rfl) (by kernel_rfl) (by kernel_rfl) (fun _ _ _ h=>h) (fun w' h=>by go_simp) hS1 ?_
           try simp only[Act.put,sA',sZ',sS']
           refine takeS (i:=8) (d:=91) (v:=.int .i64 (j:Int)) rfl rfl rfl (by kernel_rfl) (by kernel_rfl) (by kernel_rfl) (fun _ _ _ h=>h) (fun w' h=>by go_simp) hS1 ?_
           try simp only[Act.put,sA',sZ',sS']
           refine takeS (i:=9) (d:=92) (v:=.pointer (some ⟨g,j,none⟩)) rfl rfl rfl (by kernel_rfl) (by kernel_rfl) (by kernel_rfl) (fun _ _ _ h=>h) (fun w' h=>by go_simp) hS1 ?_
           try simp only[Act.put,sA',sZ',sS']
           refine takeS (i:=10) (d:=93) (v:=.int .i64 (b:Int)) rfl rfl rfl (by kernel_rfl) (by kernel_rfl) (by kernel_rfl) (fun _ _ _ h=>h) (fun w' h=>by(have c:=(World.cell?_of_block (a:=⟨g,j,none⟩) h).trans cb;go_simp)) hS1 ?_
           try simp only[Act.put,sA',sZ',sS']
           refine takeS (i:=11) (d:=94) (v:=.int .i64 ((b:Int)/8)) rfl rfl rfl (by kernel_rfl) (by kernel_rfl) (by kernel_rfl) (fun _ _ _ h=>h) (fun w' h=>by go_simp) hS1 ?_
           try simp only[Act.put,sA',sZ',sS']
           refine takeS (i:=12) (d:=95) (v:=.pointer (some ⟨P,b/8,none⟩)) rfl rfl rfl (by kernel_rfl) (by kernel_rfl) (by kernel_rfl) (fun _ _ _ h=>h) (fun w' h=>by go_simp) hS1 ?_
           try simp only[Act.put,sA',sZ',sS']
           refine takeS (i:=14) (d:=97) (v:=.slice (some ⟨g,0,none⟩) L bcap) rfl rfl rfl (by kernel_rfl) (by kernel_rfl) (by kernel_rfl) (fun _ _ _ h=>h) (fun w' h=>by go_simp) hS1 ?_
           try simp only[Act.put,sA',sZ',sS']
           refine takeS (i:=15) (d:=98) (v:=.int .i64 (j:Int)) rfl rfl rfl (by kernel_rfl) (by kernel_rfl) (by kernel_rfl) (fun _ _ _ h=>h) (fun w' h=>by go_simp) hS1 ?_
           try simp only[Act.put,sA',sZ',sS']
           refine takeS (i:=16) (d:=99) (v:=.pointer (some ⟨g,j,none⟩)) rfl rfl rfl (by kernel_rfl) (by kernel_rfl) (by kernel_rfl) (fun _ _ _ h=>h) (fun w' h=>by go_simp) hS1 ?_
           try simp only[Act.put,sA',sZ',sS']
           refine takeS (i:=17) (d:=100) (v:=.int .i64 (b:Int)) rfl rfl rfl (by kernel_rfl) (by kernel_rfl) (by kernel_rfl) (fun _ _ _ h=>h) (fun w' h=>by(have c:=(World.cell?_of_block (a:=⟨g,j,none⟩) h).trans cb;go_simp)) hS1 ?_
           try simp only[Act.put,sA',sZ',sS']
           refine takeS (i:=18) (d:=101) (v:=.int .i64 ((b:Int)%8)) rfl rfl rfl (by kernel_rfl) (by kernel_rfl) (by kernel_rfl) (fun _ _ _ h=>h) (fun w' h=>by go_simp) hS1 ?_
           try simp only[Act.put,sA',sZ',sS']
           refine takeS (i:=19) (d:=102) (v:=.int .u64 ((b:Int)%8)) rfl rfl rfl (by kernel_rfl) (by kernel_rfl) (by kernel_rfl) (fun _ _ _ h=>h) (fun w' h=>by go_simp) hS1 ?_
           try simp only[Act.put,sA',sZ',sS']
           refine takeS (i:=20) (d:=103) (v:=.int .u8 ((2^(b%8):Nat):Int)) rfl rfl rfl (by kernel_rfl) (by kernel_rfl) (by kernel_rfl) (fun _ _ _ h=>h) (fun w' h=>by go_simp) hS1 ?_
           try simp only[Act.put,sA',sZ',sS']
           refine wpAnyH_ready (rs:=[13]) (by kernel_rfl) (by simp) ?_;refine AllReadyH.cons rfl (fun K hK=> ?_) AllReadyH.nil;go_simp;refine hK.out _ _ hS1 (fun hS2=> ?_);clear hK K
           try simp only[Act.put,List.getElem_toArray,List.getElem_cons_succ,List.getElem_cons_zero,sA',sZ',sS']
           refine takeS (i:=21) (d:=104) (v:=.int .u8 ((x|||2^(b%8):Nat):Int)) rfl rfl rfl (by kernel_rfl) (by kernel_rfl) (by kernel_rfl) (fun _ _ _ h=>h) (fun w' h=>by go_simp) hS2 ?_
           try simp only[Act.put,sA',sZ',sS']
           refine takeS (i:=22) (d:=105) (v:=.pointer (some ⟨P,b/8,none⟩)) rfl rfl rfl (by kernel_rfl) (by kernel_rfl) (by kernel_rfl) (fun _ _ _ h=>h) (fun w' h=>by go_simp) hS2 ?_
           try simp only[Act.put,sA',sZ',sS']
           refine wpAnyH_ready (rs:=[23]) (by kernel_rfl) (by simp) ?_;refine AllReadyH.cons rfl (fun K hK=> ?_) AllReadyH.nil;go_simp;refine hK.out _ _ hSX (fun hS3=> ?_);clear hK K
           try simp only[Act.put,List.getElem_toArray,List.getElem_cons_succ,List.getElem_cons_zero,sA',sZ',sS']
           refine wpAnyH_done (by kernel_rfl) ?_ _;have HNXT:=hd' (HBD.out _ rfl);clear HBD hSX cb hcx hfz hsh hor qa qb qc hS1 hS2 hS3 hg22 hpw hgP;go_wp2_with fail;go_roundw
           case rel=>exact⟨j+1,by omega,by go_num,B.setBit cur2 b,hd' HNXT.out⟩
           case measure=>simp[intOf];omega
         ·obtain rfl:L=j:=by omega
          have e2:((L:Int)<(L:Int))=False:=by simp
          have hcf:cur2=fin:=by
           have h:=HK.out.rel;rw[List.drop_of_length_le (by rw[HBL.out];exact lR' _)]at h;exact h
          subst hcf;have HNX:Hid (One.OwnV 5 wr w2.heap.size (some ⟨P,0,none⟩) zz d (cur2.map u8V)∧Below w2.heap.size w2 wr∧B.Bytes cur2∧B.laidL inp at' (k+1) (m.sigs.drop (k+1)) cur2=ans):=hd' ⟨HK.out.own,HB7.out.trans ((Below.refl _ _).grown HK.out.grown HB7.out.size (fun i hi=>by cases hi;exact HPB.out)),HK.out.bytes,HSTEP.out⟩;clear HK;go_wp2_with fail;go_roundw
          case rel=>exact⟨k+1,cur2,by omega,by go_num,HNX⟩
          case measure=>simp[intOf];omega
     ·obtain rfl:n=k:=by omega
      have e1:((n:Int)<(n:Int))=False:=by simp
      have HE:Hid (ans= .ok cur):=hd' (by
       have h:=HI.out.2.2.2;rw[List.drop_of_length_le (by rw[HN.out];exact lR' _)]at h
       exact h.symm)
      have HCL:Hid (zz=cur.length):=hd' (by have h:=HI.out.1.len;rw[List.length_map]at h;exact h);go_wp2_with fail;go_ret2;rw[HE.out];refine⟨r,d,by rw[←HCL.out];rfl, ?_,HB2.out.trans (HI.out.2.1.mono HB2.out.size)⟩;rw[←HCL.out];exact ListAt.ofOwn HI.out.1.own
end Code
end Go.Proofs.YtljhklblbafjkaaGreatDoor
