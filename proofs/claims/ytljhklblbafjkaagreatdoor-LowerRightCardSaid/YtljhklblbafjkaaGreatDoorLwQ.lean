/- Package check: what is wrong with a message. -/
import Derived.Test.YtljhklblbafjkaaGreatDoorLwO
import Derived.Test.YtljhklblbafjkaaGreatDoorLwU
open Go.Lib renaming hid→hd'
open Nat renaming le_refl→lR'
open List renaming setIfInBounds_toArray→sA',set_cons_zero→sZ',set_cons_succ→sS'
namespace Go.Proofs.YtljhklblbafjkaaGreatDoor
open Go.RowKit
namespace Code
attribute [local go_sem ↓] Go.wp_at_zero Go.wp_at_succ
def ApartLaw:Prop:=∀(m:B.Msg) (sa:Option Addr) (n cap:Nat) (w:World),MsgWf m→SigsAt w sa n m.sigs→n≤64→m.headNo=0→(∀i,i<m.sigs.length→m.sigNo i=0)→(∀i,i<m.sigs.length→m.brNo i=0)→
 Calls Tryz.prog 53 #[.agg (msgC m (.slice sa n cap))] w (ErrOut m w)
structure ChkAt(m:B.Msg)(sv:Value)(M k:Nat)(w wr:World):Prop where
 box:RC wr w.heap.size 27 8 (msgC m sv)
 seen:SeenAt wr M k ((m.sigs.take k).map (·.name))
 bel:Below w.heap.size w wr
 far:w.heap.size<M
 no:∀i,i<k→m.sigNo i=0
structure BrAt(m:B.Msg)(sv:Value)(k:Nat)(w wr:World):Prop where
 box:RC wr w.heap.size 27 8 (msgC m sv)
 bel:Below w.heap.size w wr
 no:∀i,i<k→m.brNo i=0
theorem head_len{m:B.Msg}(h:m.headNo=0):m.sigs.length≤64∧0≤m.size∧m.size≤8:=by
 unfold B.Msg.headNo at h;generalize(if m.wide=true then(536870911:Int)else 2047)=most at h
 by_cases h1:B.wordOk m.name=false
 ·rw[if_pos h1]at h;omega
 ·rw[if_neg h1]at h
  by_cases h2:most<m.id
  ·rw[if_pos h2]at h;omega
  ·rw[if_neg h2]at h
   by_cases h3:m.size<0∨8<m.size
   ·rw[if_pos h3]at h;omega
   ·rw[if_neg h3]at h
    by_cases h4:B.wordOk m.sender=false
    ·rw[if_pos h4]at h;omega
    ·rw[if_neg h4]at h
     by_cases h5:64<m.sigs.length
     ·rw[if_pos h5]at h;omega
     ·omega
theorem br_not{m:B.Msg}{k:Nat}{s:B.Sig}(hs:m.sigs[k]? =some s)(h:s.role≠2):m.brNo k=0:=by
 unfold B.Msg.brNo;rw[hs];simp[h]
theorem br_none{m:B.Msg}{k:Nat}{s:B.Sig}(hs:m.sigs[k]? =some s)(h:s.role=2)(hz:¬0≤B.muxZ m.sigs):m.brNo k=14:=by
 unfold B.Msg.brNo;rw[hs];unfold B.muxZ at hz
 cases hm:B.muxI m.sigs with
 | none=>simp[h]
 | some i=>rw[hm]at hz;simp at hz
theorem br_some{m:B.Msg}{k:Nat}{s:B.Sig}(hs:m.sigs[k]? =some s)(h:s.role=2)(hz:0≤B.muxZ m.sigs):∃(i:Nat) (t:B.Sig),B.muxZ m.sigs=(i:Int)∧m.sigs[i]? =some t∧m.brNo k=if B.fits s.branch.toNat t.size.toNat t.signed=true then 0 else 14:=by
 unfold B.Msg.brNo;rw[hs];unfold B.muxZ at hz⊢
 cases hm:B.muxI m.sigs with
 | none=>rw[hm]at hz;simp at hz
 | some i=>
  obtain⟨t,ht,_⟩:=B.muxI_some hm;exact⟨i,t,rfl,ht,by simp[h,ht]⟩
theorem sig_size{m:B.Msg}{i:Nat}{t:B.Sig}(ht:m.sigs[i]? =some t)(h:m.sigNo i=0):1≤t.size∧t.size≤64:=by
 rw[sigNo_of ht]at h
 by_cases h0:t.aloneNo m.size=0
 ·have h1:=(B.Sig.alone_where h0).1
  have h2:t.placeNo=0:=by
   unfold B.Sig.whereNo at h1
   by_cases h3:t.placeNo=0
   ·exact h3
   ·rw[if_pos h3]at h1;exact h1
  exact(B.Sig.place_ok h2).1
 ·rw[if_pos h0]at h
  exact absurd h h0
set_option maxRecDepth 100000 in
set_option maxHeartbeats 25600000 in
theorem message_any(hap:ApartLaw)(m:B.Msg)(sa:Option Addr)(n cap:Nat)(w:World)(hm:MsgWf m)(hs:SigsAt w sa n m.sigs)(hT:UTabs w):
    Calls Tryz.prog 22 #[.agg (msgC m (.slice sa n cap))] w (ErrOut m w):=by
 have hn:=hs.len;have HS:=hd' hs;have HT:=hd' hT;have HM:=hd' hm;have HN:=hd' hn;have hrow:=RC.new (msgC m (.slice sa n cap)) 27 w (n:=8) rfl rfl;have hbel:Below w.heap.size w (w.alloc (.cells (msgC m (.slice sa n cap)) 27)):=(Below.refl _ _).alloc (lR' _) _;obtain⟨w1,hw1⟩:∃w1,w.alloc (.cells (msgC m (.slice sa n cap)) 27)=w1:=⟨_,rfl⟩;rw[hw1]at hrow hbel
 have hz1:w.heap.size<w1.heap.size:=by rw[←hw1];simp
 have HR:=hd' hrow;have HB:=hd' hbel;have HZ:=hd' hz1;have hrr:=RC.range hrow;have hhead:=head_any m sa n cap hm hn w1;have HAP:=hd' hap;clear hrow hbel hz1 hs hT hm hn hap;go_enter Tryz.func22,Tryz.ntmps22
 go_upto_region 1 with fail
 try rw[hw1]
 clear hw1
 by_cases hh:m.headNo=0
 ·rw[hh]at hhead
  have HH:=hd' hh;clear hh
  go_upto_region 5 with(first
   | refine wpList_load_mid (by rfl) 27 _ (by rfl) w.heap.size 0 (by rfl) (msgC m (.slice sa n cap)).toList _ hrr Tryz.underlying27 (by rfl) (by kernel_rfl) ?_
   | (go_at_call 49;refine hhead.mono ?_;rintro e w2 ⟨rfl,hb2⟩))
  have hrow2:=HR.out.below hb2 HZ.out;have hlen:=head_len HH.out
  have hn64:n≤64:=by rw[HN.out];exact hlen.1
  obtain⟨M,hM⟩:∃M,w2.heap.size=M:=⟨_,rfl⟩;have hb23:Below w2.heap.size w2 (w2.alloc (.map #[] 0)):=(Below.refl _ _).alloc (lR' _) _
  have hseen:SeenAt (w2.alloc (.map #[] 0)) M 0 []:=by rw[←hM];exact SeenAt.new w2
  obtain⟨w3,hw3⟩:∃w3,w2.alloc (.map #[] 0)=w3:=⟨_,rfl⟩;rw[hw3]at hb23 hseen;have hz2:=Nat.lt_of_lt_of_le HZ.out hb2.size;have hrow3:=hrow2.below hb23 hz2;have hbw3:Below w.heap.size w w3:=HB.out.trans ((hb2.trans (hb23.mono hb2.size)).mono HB.out.size);have k7:w3.cell? ⟨w.heap.size,7,none⟩=some (.slice sa n cap):=hrow3.cell (j:=7) rfl;have HC0:Hid (ChkAt m (.slice sa n cap) M 0 w w3):=hd' ⟨hrow3,hseen,hbw3,by rw[←hM];exact hz2,fun i hi=>absurd hi (by omega)⟩
  have hmk:(Instr.makeMap 98 none).run Tryz.prog w2= .ok (.map (some w2.heap.size)) (w2.alloc (.map #[] 0)):=by simp[Instr.makeMap]
  rw[hM,hw3]at hmk;clear hrow2 hb2 hrr hhead hb23 hseen hrow3 hbw3 hM hz2 HR HB HZ hlen hw3;go_wp2_with fail;clear k7 hmk
  go_loopw [23,4] (fun i z wr=>∃k:Nat,k≤n∧i= .int .i64 k∧z= .int .i64 (B.muxZ (m.sigs.take k))∧ChkAt m (.slice sa n cap) M k w wr) (fun i _ _=>n-(intOf i).toNat)
  case atStart=>exact⟨0,by omega,rfl,rfl,HC0.out⟩
  case round=>
   obtain⟨k,hk,rfl,rfl,hc⟩:=hrel;have HC:=hd' hc;clear HC0 hc;obtain⟨z,hz⟩:∃z,B.muxZ (m.sigs.take k)=z:=⟨_,rfl⟩;have HMZ:=hd' hz;rw[hz];clear hz
   by_cases hlt:k<n
   ·have hx:m.sigs[k]? =some (m.sigs[k]'(by have:=HN.out;omega)):=List.getElem?_eq_getElem _
    generalize m.sigs[k]'(by have:=HN.out;omega)=s at hx;obtain⟨b1,o1,rfl,hl1,a1,n1,c1,hrow,hto,hn1⟩:=HS.out.at_ k s hx;have hrr:=cells_below hrow HC.out.bel hl1;have HSW:=hd' (HM.out.sigs s (List.mem_of_getElem? hx));have HX:=hd' hx;have HTO:=hd' hto;have HSG:=hd' (sigNo_of hx);have HSM:=hd' (B.muxZ_next hx);have HLE:=hd' (by rw[←HN.out];exact hlt:k<m.sigs.length)
    have q0:(0:Int)≤(k:Int):=by omega
    have q1:(k:Int)<n:=by omega
    clear hx hrow hto hl1
    go_upto_region 9 with(first
     | refine wpList_load_mid (by rfl) 71 _ (by rfl) b1 (o1+k*19) (by rfl) (sigC s (.slice a1 n1 c1)).toList _ hrr Tryz.underlying71 (by rfl) (by rw[infoN71];rfl) ?_
     | (refine wpList_store_mid (by rfl) 71 _ _ (by rfl) wr.heap.size 0 (sigC s (.slice a1 n1 c1)) (by rfl) (by rfl) (there_alloc _ _ _ (by rfl)) (by rw[infoN71];rfl) (ones_sig _ _ _ _) ?_;generalize hw4:World.setCells _ _ _ _=w4))
    obtain⟨X,hX⟩:∃X,wr.heap.size=X:=⟨_,rfl⟩
    have hb4:Below wr.heap.size wr w4:=by
     rw[←hw4];exact((Below.refl _ _).alloc (lR' _) _).grown (grownBy_setCells _ _ _ _) (by simp) (fun k hk=>by cases hk;exact lR' _)
    have hrow4:RC w4 X 71 19 (sigC s (.slice a1 n1 c1)):=by rw[←hw4,←hX];exact RC.over _ _ _ _ (by rfl) rfl
    have hbox4:=HC.out.box.below hb4 HC.out.box.blk;have hseen4:=HC.out.seen.below hb4 HC.out.seen.lt;have hbw4:=HC.out.bel.trans (hb4.mono HC.out.bel.size);have k5:w4.cell? ⟨w.heap.size,5,none⟩=some (.int .i64 m.size):=hbox4.cell (j:=5) rfl;have hal:=alone_any s a1 n1 c1 m.size HSW.out w4 (HTO.out.below hbw4 (lR' _)) hn1 (HT.out.below hbw4 (lR' _));have hrr4:=RC.range hrow4;have HROW4:=hd' hrow4;have HBOX4:=hd' hbox4;have HSEEN4:=hd' hseen4;have HBW4:=hd' hbw4;have HMX:Hid (M<X):=hd' (by rw[←hX];exact HC.out.seen.lt);rw[hX];clear hw4 hb4 hrow4 hbox4 hseen4 hbw4 hrr hX;obtain⟨na,hna⟩:∃na,s.aloneNo m.size=na:=⟨_,rfl⟩;have HNA:=hd' hna;rw[hna]at hal;clear hna
    go_upto_region 10 with(first
     | refine wpList_load_mid (by rfl) 71 _ (by rfl) X 0 (by rfl) (sigC s (.slice a1 n1 c1)).toList _ hrr4 Tryz.underlying71 (by rfl) (by rw[infoN71];rfl) ?_
     | (go_at_call 51;refine hal.mono ?_;rintro e w5 ⟨rfl,hb5⟩))
    have hrow5:=HROW4.out.below hb5 HROW4.out.blk;have hbox5:=HBOX4.out.below hb5 HBOX4.out.blk;have hseen5:=HSEEN4.out.below hb5 HSEEN4.out.lt;have hbw5:=HBW4.out.trans (hb5.mono HBW4.out.size);have j0:w5.cell? ⟨X,0,none⟩=some (.int .i64 s.line):=hrow5.cell (j:=0) rfl;have j1:w5.cell? ⟨X,1,none⟩=some (.int .i64 s.col):=hrow5.cell (j:=1) rfl;have j2:w5.cell? ⟨X,2,none⟩=some (.string s.name):=hrow5.cell (j:=2) rfl;have j3:w5.cell? ⟨X,3,none⟩=some (.int .i64 s.role):=hrow5.cell (j:=3) rfl;have HROW5:=hd' hrow5;have HBOX5:=hd' hbox5;have HSEEN5:=hd' hseen5;have HBW5:=hd' hbw5;clear hrow5 hbox5 hseen5 hbw5 hb5 hal hrr4 k5 HROW4 HBOX4 HSEEN4 HBW4;have hsg:=HSG.out;rw[HNA.out,HMZ.out]at hsg
    by_cases hz:na=0
    ·rw[if_neg (by simp[hz])]at hsg
     have e1:(na !=0)=false:=by simp[hz]
     have hlk:=HSEEN5.out.look s.name HSW.out.name
     cases hw:hasW ((m.sigs.take k).map (·.name)) s.name with
     | true=>
      rw[hw]at hlk;rw[if_pos hw]at hsg;have hno:=B.no_sig HH.out HX.out HC.out.no (by rw[hsg];decide);rw[hsg]at hno;have HNO:=hd' hno;have hat:=cat_any 12 s.line s.col w5;clear hsg hno hw hz;go_wp2_with (go_at_call 50;refine hat.mono ?_;rintro e w6 ⟨rfl,hb6⟩);go_ret;exact⟨by rw[HNO.out];rfl,HBW5.out.trans (hb6.mono HBW5.out.size)⟩
     | false=>
      rw[hw]at hlk;rw[if_neg (by rw[hw];simp)]at hsg;clear hw hz
      by_cases hr:s.role=1
      ·have e2:(s.role==1)=true:=by simp[hr]
       by_cases h0:0≤z
       ·have e3:(0≤z)=True:=by simp[h0]
        rw[if_pos ⟨hr,h0⟩]at hsg;have hno:=B.no_sig HH.out HX.out HC.out.no (by rw[hsg];decide);rw[hsg]at hno;have HNO:=hd' hno;have hat:=cat_any 14 s.line s.col w5;clear hsg hno hr h0;go_wp2_with (go_at_call 50;refine hat.mono ?_;rintro e w6 ⟨rfl,hb6⟩);go_ret;exact⟨by rw[HNO.out];rfl,HBW5.out.trans (hb6.mono HBW5.out.size)⟩
       ·have e3:(0≤z)=False:=by simp;omega
        rw[if_neg (fun h=>h0 h.2)]at hsg;have hm:=HSM.out (fun h=>h0 (by rw[←HMZ.out];exact((B.muxZ_sign _).2).2 h.2));rw[if_pos hr]at hm;have HM2:=hd' hm;have HSG0:=hd' hsg;clear hsg hm hr h0;obtain⟨w6,hput,hseen6,hg6⟩:=HSEEN5.out.put (by unfold maxLen;omega) s.name HSW.out.name
        have hne:M≠X:=by have:=HMX.out;omega
        have hrow6:RC w6 X 71 19 (sigC s (.slice a1 n1 c1)):=RC.of HROW5.out (hg6.block _ HROW5.out.blk (by simp;omega));have j3':w6.cell? ⟨X,3,none⟩=some (.int .i64 s.role):=hrow6.cell (j:=3) rfl;have hbox6:RC w6 w.heap.size 27 8 (msgC m (.slice (some ⟨b1,o1,none⟩) n cap)):=RC.of HBOX5.out (hg6.block _ HBOX5.out.blk (by have:=HC.out.far;simp;omega));have hbw6:Below w.heap.size w w6:=HBW5.out.grown hg6 (by have:=HBW5.out.size;omega) (fun j hj=>by cases hj;exact Nat.le_of_lt HC.out.far)
        have HC6:Hid (ChkAt m (.slice (some ⟨b1,o1,none⟩) n cap) M (k+1) w w6):=hd' ⟨hbox6,by rw[List.take_add_one,HX.out,Option.toList_some,List.map_append];exact hseen6,hbw6,HC.out.far,fun i hi=>by
         by_cases e:i=k
         ·rw[e];exact HSG0.out
         ·exact HC.out.no i (by omega)⟩
        clear hseen6 hg6 hne hrow6 hbox6 hbw6;go_wp2_with fail;go_roundw
        case rel=>exact⟨k+1,by omega,by go_num,by rw[HM2.out],HC6.out⟩
        case measure=>simp[intOf];omega
      ·have e2:(s.role==1)=false:=by simp[hr]
       rw[if_neg (fun h=>hr h.1)]at hsg;have hm:=HSM.out (fun h=>hr h.1);rw[if_neg hr,HMZ.out]at hm;have HM2:=hd' hm;have HSG0:=hd' hsg;clear hsg hm hr;obtain⟨w6,hput,hseen6,hg6⟩:=HSEEN5.out.put (by unfold maxLen;omega) s.name HSW.out.name
       have hne:M≠X:=by have:=HMX.out;omega
       have hrow6:RC w6 X 71 19 (sigC s (.slice a1 n1 c1)):=RC.of HROW5.out (hg6.block _ HROW5.out.blk (by simp;omega));have j3':w6.cell? ⟨X,3,none⟩=some (.int .i64 s.role):=hrow6.cell (j:=3) rfl;have hbox6:RC w6 w.heap.size 27 8 (msgC m (.slice (some ⟨b1,o1,none⟩) n cap)):=RC.of HBOX5.out (hg6.block _ HBOX5.out.blk (by have:=HC.out.far;simp;omega));have hbw6:Below w.heap.size w w6:=HBW5.out.grown hg6 (by have:=HBW5.out.size;omega) (fun j hj=>by cases hj;exact Nat.le_of_lt HC.out.far)
       have HC6:Hid (ChkAt m (.slice (some ⟨b1,o1,none⟩) n cap) M (k+1) w w6):=hd' ⟨hbox6,by rw[List.take_add_one,HX.out,Option.toList_some,List.map_append];exact hseen6,hbw6,HC.out.far,fun i hi=>by
        by_cases e:i=k
        ·rw[e];exact HSG0.out
        ·exact HC.out.no i (by omega)⟩
       clear hseen6 hg6 hne hrow6 hbox6 hbw6;go_wp2_with fail;go_roundw
       case rel=>exact⟨k+1,by omega,by go_num,by rw[HM2.out],HC6.out⟩
       case measure=>simp[intOf];omega
    ·rw[if_pos hz]at hsg
     have hno:=B.no_sig HH.out HX.out HC.out.no (by rw[hsg];exact hz);rw[hsg]at hno;have HNO:=hd' hno
     have e1:(na !=0)=true:=by simp[hz]
     have hat:=cat_any na s.line s.col w5;clear hsg hno hz;go_wp2_with (go_at_call 50;refine hat.mono ?_;rintro e w6 ⟨rfl,hb6⟩);go_ret;exact⟨by rw[HNO.out];rfl,HBW5.out.trans (hb6.mono HBW5.out.size)⟩
   ·obtain rfl:n=k:=by omega
    have hall:∀i,i<m.sigs.length→m.sigNo i=0:=fun i hi=>HC.out.no i (by rw[HN.out];exact hi)
    have hmz:B.muxZ m.sigs=z:=by
     have:=HMZ.out;rw[HN.out,List.take_length]at this;exact this
    have HALL:=hd' hall;have HMZ2:=hd' hmz;have k7:wr.cell? ⟨w.heap.size,7,none⟩=some (.slice sa n cap):=HC.out.box.cell (j:=7) rfl;have HD0:Hid (BrAt m (.slice sa n cap) 0 w wr):=hd' ⟨HC.out.box,HC.out.bel,fun i hi=>absurd hi (by omega)⟩;clear hall hmz HC HMZ;go_wp2_with fail;clear k7
    go_loopw [65] (fun i wy=>∃k:Nat,k≤n∧i= .int .i64 k∧BrAt m (.slice sa n cap) k w wy) (fun i _=>n-(intOf i).toNat)
    case atStart=>exact⟨0,by omega,rfl,HD0.out⟩
    case round=>
     obtain⟨k,hk,rfl,hc⟩:=hrel;have HC:=hd' hc;clear HD0 hc
     by_cases hlt:k<n
     ·have hx:m.sigs[k]? =some (m.sigs[k]'(by have:=HN.out;omega)):=List.getElem?_eq_getElem _
      generalize m.sigs[k]'(by have:=HN.out;omega)=s at hx;obtain⟨b1,o1,rfl,hl1,a1,n1,c1,hrow,hto,hn1⟩:=HS.out.at_ k s hx;have hrr:=cells_below hrow HC.out.bel hl1;have HSW:=hd' (HM.out.sigs s (List.mem_of_getElem? hx));have HX:=hd' hx;have HL1:=hd' hl1
      have q0:(0:Int)≤(k:Int):=by omega
      have q1:(k:Int)<n:=by omega
      clear hx hrow hto hl1
      go_upto_region 24 with(first
       | refine wpList_load_mid (by rfl) 71 _ (by rfl) b1 (o1+k*19) (by rfl) (sigC s (.slice a1 n1 c1)).toList _ hrr Tryz.underlying71 (by rfl) (by rw[infoN71];rfl) ?_
       | (refine wpList_store_mid (by rfl) 71 _ _ (by rfl) wr.heap.size 0 (sigC s (.slice a1 n1 c1)) (by rfl) (by rfl) (there_alloc _ _ _ (by rfl)) (by rw[infoN71];rfl) (ones_sig _ _ _ _) ?_;generalize hw4:World.setCells _ _ _ _=w4))
      obtain⟨X,hX⟩:∃X,wr.heap.size=X:=⟨_,rfl⟩
      have hb4:Below wr.heap.size wr w4:=by
       rw[←hw4];exact((Below.refl _ _).alloc (lR' _) _).grown (grownBy_setCells _ _ _ _) (by simp) (fun k hk=>by cases hk;exact lR' _)
      have hrow4:RC w4 X 71 19 (sigC s (.slice a1 n1 c1)):=by rw[←hw4,←hX];exact RC.over _ _ _ _ (by rfl) rfl
      have hbox4:=HC.out.box.below hb4 HC.out.box.blk;have hbw4:=HC.out.bel.trans (hb4.mono HC.out.bel.size);have j0:w4.cell? ⟨X,0,none⟩=some (.int .i64 s.line):=hrow4.cell (j:=0) rfl;have j1:w4.cell? ⟨X,1,none⟩=some (.int .i64 s.col):=hrow4.cell (j:=1) rfl;have j3:w4.cell? ⟨X,3,none⟩=some (.int .i64 s.role):=hrow4.cell (j:=3) rfl;have j4:w4.cell? ⟨X,4,none⟩=some (.int .u64 s.branch):=hrow4.cell (j:=4) rfl;have k7:w4.cell? ⟨w.heap.size,7,none⟩=some (.slice (some ⟨b1,o1,none⟩) n cap):=hbox4.cell (j:=7) rfl;have HBOX4:=hd' hbox4;have HBW4:=hd' hbw4;have HROW4:=hd' hrow4;have HLX:Hid (X<w4.heap.size):=hd' hrow4.blk;have HLW:Hid (w.heap.size<w4.heap.size):=hd' hbox4.blk;rw[hX];clear hw4 hb4 hrow4 hbox4 hbw4 hrr hX
      by_cases hr:s.role=2
      ·have e1:(s.role==2)=true:=by simp[hr]
       by_cases hz0:0≤z
       ·have e2:(z<0)=False:=by simp;omega
        obtain⟨i,t,hzi,hti,hbn⟩:=br_some HX.out hr (by rw[HMZ2.out];exact hz0)
        obtain rfl:(i:Int)=z:=by rw[←hzi];exact HMZ2.out
        have hil:=(List.getElem?_eq_some_iff.1 hti).1;obtain⟨b2,o2,e2',_,a2,n2,c2,hrow2,_,_⟩:=HS.out.at_ i t hti
        obtain⟨rfl,rfl⟩:b1=b2∧o1=o2:=by injection e2' with e2';injection e2' with h1 h2;exact⟨h1,h2⟩
        have hlb:b1<w4.heap.size:=Nat.lt_of_lt_of_le HL1.out HBW4.out.size;have hr2:=cells_below hrow2 HBW4.out HL1.out
        obtain⟨Z,hZ⟩:∃Z:Nat,t.size=(Z:Int)∧1≤Z∧Z≤64:=by
         have:=sig_size hti (HALL.out i hil);exact⟨t.size.toNat,by omega,by omega,by omega⟩
        obtain⟨V,hB⟩:∃V:Nat,s.branch=(V:Int)∧V<18446744073709551616:=by
         obtain⟨hb0,hb1⟩:=HSW.out.branch;exact⟨s.branch.toNat,by omega,by omega⟩
        have z6:w4.cell? ⟨b1,o1+i*19+6,none⟩=some (.int .i64 (Z:Int)):=by rw[←hZ.1];exact hr2 6 _ rfl
        have z8:w4.cell? ⟨b1,o1+i*19+8,none⟩=some (.bool t.signed):=hr2 8 _ rfl;rw[hB.1]at j4;rw[hZ.1,hB.1,Int.toNat_natCast,Int.toNat_natCast]at hbn;have HLB:=hd' hlb;have HFB:=hd' hB.2;have HFZ:=hd' hZ.2
        have i0':(0:Int)≤(i:Int):=by omega
        have i1':(i:Int)<n:=by rw[HN.out];omega
        have HBN1:=hd' hbn;clear hzi hti hil hrow2 hlb hr2 hZ hB hr hz0 hbn e2'
        cases hf:B.fits V Z t.signed with
        | true=>
         have HBN:=hd' (by rw[HBN1.out,if_pos hf]:m.brNo k=0);refine wp_region_held_drew (S:=Below w4.heap.size w4) (by kernel_rfl) (Below.refl _ _).drew (fun hS1=> ?_);refine takeS (i:=0) (d:=69) (v:=.pointer (some ⟨X,3,none⟩)) rfl rfl rfl (by kernel_rfl) (by kernel_rfl) (by kernel_rfl) (fun _ _ _ h=>h) (fun w' h=>by go_simp) hS1 ?_;simp only[Act.put,sA',sZ',sS'];refine takeS (i:=1) (d:=70) (v:=.int .i64 s.role) rfl rfl rfl (by kernel_rfl) (by kernel_rfl) (by kernel_rfl) (fun _ _ _ h=>h) (fun w' h=>by(have c:=(h.cell (p:=⟨X,3,none⟩) HLX.out).trans j3;go_simp)) hS1 ?_;simp only[Act.put,sA',sZ',sS'];refine takeS (i:=2) (d:=71) (v:=.bool true) rfl rfl rfl (by kernel_rfl) (by kernel_rfl) (by kernel_rfl) (fun _ _ _ h=>h) (fun w' h=>by go_simp) hS1 ?_;simp only[Act.put,sA',sZ',sS']
         refine takeS (i:=3) (d:=72) (v:=.bool true) rfl rfl rfl (by kernel_rfl) (by kernel_rfl) (by kernel_rfl) (fun _ _ _ h=>h) (fun w' h=>by go_simp) hS1 ?_;simp only[Act.put,sA',sZ',sS'];refine takeW (i:=4) (d:=73) (v:=.int .i64 (i:Int)) rfl rfl (by kernel_rfl) (by kernel_rfl) (by kernel_rfl) (fun _ _ _ h=>h) (by rfl) (fun w' h=>by go_simp) hS1 ?_;simp only[Act.put,sA',sZ',sS'];refine takeW (i:=5) (d:=74) (v:=.bool false) rfl rfl (by kernel_rfl) (by kernel_rfl) (by kernel_rfl) (fun _ _ _ h=>h) (by rfl) (fun w' h=>by go_simp) hS1 ?_;simp only[Act.put,sA',sZ',sS'];refine takeW (i:=6) (d:=75) (v:=.bool false) rfl rfl (by kernel_rfl) (by kernel_rfl) (by kernel_rfl) (fun _ _ _ h=>h) (by rfl) (fun w' h=>by go_simp) hS1 ?_;simp only[Act.put,sA',sZ',sS']
         refine takeW (i:=7) (d:=76) (v:=.pointer (some ⟨X,4,none⟩)) rfl rfl (by kernel_rfl) (by kernel_rfl) (by kernel_rfl) (fun _ _ _ h=>h) (by rfl) (fun w' h=>by go_simp) hS1 ?_;simp only[Act.put,sA',sZ',sS'];refine takeW (i:=8) (d:=77) (v:=.int .u64 (V:Int)) rfl rfl (by kernel_rfl) (by kernel_rfl) (by kernel_rfl) (fun _ _ _ h=>h) (by rfl) (fun w' h=>by(have c:=(h.cell (p:=⟨X,4,none⟩) HLX.out).trans j4;go_simp)) hS1 ?_;simp only[Act.put,sA',sZ',sS'];refine takeW (i:=9) (d:=78) (v:=.pointer (some ⟨w.heap.size,7,none⟩)) rfl rfl (by kernel_rfl) (by kernel_rfl) (by kernel_rfl) (fun _ _ _ h=>h) (by rfl) (fun w' h=>by go_simp) hS1 ?_;simp only[Act.put,sA',sZ',sS']
         refine takeW (i:=10) (d:=79) (v:=.slice (some ⟨b1,o1,none⟩) n cap) rfl rfl (by kernel_rfl) (by kernel_rfl) (by kernel_rfl) (fun _ _ _ h=>h) (by rfl) (fun w' h=>by(have c:=(h.cell (p:=⟨w.heap.size,7,none⟩) HLW.out).trans k7;go_simp)) hS1 ?_;simp only[Act.put,sA',sZ',sS'];refine takeW (i:=11) (d:=80) (v:=.int .i64 (i:Int)) rfl rfl (by kernel_rfl) (by kernel_rfl) (by kernel_rfl) (fun _ _ _ h=>h) (by rfl) (fun w' h=>by go_simp) hS1 ?_;simp only[Act.put,sA',sZ',sS'];refine takeW (i:=12) (d:=81) (v:=.pointer (some ⟨b1,o1+i*19,none⟩)) rfl rfl (by kernel_rfl) (by kernel_rfl) (by kernel_rfl) (fun _ _ _ h=>h) (by rfl) (fun w' h=>by go_simp) hS1 ?_;simp only[Act.put,sA',sZ',sS'];refine takeW (i:=13) (d:=82) (v:=.pointer (some ⟨b1,o1+i*19+6,none⟩)) rfl rfl (by kernel_rfl) (by kernel_rfl) (by kernel_rfl) (fun _ _ _ h=>h) (by rfl) (fun w' h=>by go_simp) hS1 ?_
         simp only[Act.put,sA',sZ',sS'];refine takeW (i:=14) (d:=83) (v:=.int .i64 (Z:Int)) rfl rfl (by kernel_rfl) (by kernel_rfl) (by kernel_rfl) (fun _ _ _ h=>h) (by rfl) (fun w' h=>by(have c:=(h.cell (p:=⟨b1,o1+i*19+6,none⟩) HLB.out).trans z6;go_simp)) hS1 ?_;simp only[Act.put,sA',sZ',sS'];refine takeW (i:=15) (d:=84) (v:=.pointer (some ⟨w.heap.size,7,none⟩)) rfl rfl (by kernel_rfl) (by kernel_rfl) (by kernel_rfl) (fun _ _ _ h=>h) (by rfl) (fun w' h=>by go_simp) hS1 ?_;simp only[Act.put,sA',sZ',sS'];refine takeW (i:=16) (d:=85) (v:=.slice (some ⟨b1,o1,none⟩) n cap) rfl rfl (by kernel_rfl) (by kernel_rfl) (by kernel_rfl) (fun _ _ _ h=>h) (by rfl) (fun w' h=>by(have c:=(h.cell (p:=⟨w.heap.size,7,none⟩) HLW.out).trans k7;go_simp)) hS1 ?_;simp only[Act.put,sA',sZ',sS']
         refine takeW (i:=17) (d:=86) (v:=.int .i64 (i:Int)) rfl rfl (by kernel_rfl) (by kernel_rfl) (by kernel_rfl) (fun _ _ _ h=>h) (by rfl) (fun w' h=>by go_simp) hS1 ?_;simp only[Act.put,sA',sZ',sS'];refine takeW (i:=18) (d:=87) (v:=.pointer (some ⟨b1,o1+i*19,none⟩)) rfl rfl (by kernel_rfl) (by kernel_rfl) (by kernel_rfl) (fun _ _ _ h=>h) (by rfl) (fun w' h=>by go_simp) hS1 ?_;simp only[Act.put,sA',sZ',sS'];refine takeW (i:=19) (d:=88) (v:=.pointer (some ⟨b1,o1+i*19+8,none⟩)) rfl rfl (by kernel_rfl) (by kernel_rfl) (by kernel_rfl) (fun _ _ _ h=>h) (by rfl) (fun w' h=>by go_simp) hS1 ?_;simp only[Act.put,sA',sZ',sS'];refine takeW (i:=20) (d:=89) (v:=.bool t.signed) rfl rfl (by kernel_rfl) (by kernel_rfl) (by kernel_rfl) (fun _ _ _ h=>h) (by rfl) (fun w' h=>by(have c:=(h.cell (p:=⟨b1,o1+i*19+8,none⟩) HLB.out).trans z8;go_simp)) hS1 ?_;simp only[Act.put,sA',sZ',sS']
         refine wpAnyH_ready (rs:=[21]) (by kernel_rfl) (by simp) ?_;refine AllReadyH.cons rfl (fun K hK=> ?_) AllReadyH.nil;go_simp;refine(cfits_any V Z t.signed _ HFB.out HFZ.out.1 HFZ.out.2).mono ?_;rw[hf];rintro e v1 ⟨rfl,rfl⟩;refine hK.out _ _ hS1 (fun hS2=> ?_);clear hK K;refine takeW (i:=22) (d:=91) (v:=.bool false) rfl rfl (by kernel_rfl) (by kernel_rfl) (by kernel_rfl) (fun _ _ _ h=>h) (by rfl) (fun w' h=>by go_simp) hS2 ?_;simp only[Act.put,sA',sZ',sS'];refine takeW (i:=23) (d:=92) (v:=.bool false) rfl rfl (by kernel_rfl) (by kernel_rfl) (by kernel_rfl) (fun _ _ _ h=>h) (by rfl) (fun w' h=>by go_simp) hS2 ?_;simp only[Act.put,sA',sZ',sS'];refine takeS (i:=24) (d:=93) (v:=.bool false) rfl rfl rfl (by kernel_rfl) (by kernel_rfl) (by kernel_rfl) (fun _ _ _ h=>h) (fun w' h=>by go_simp) hS2 ?_;simp only[Act.put,sA',sZ',sS'];refine wpAnyH_done (by kernel_rfl) ?_ _;clear hS1
         obtain⟨w5,hw5⟩:∃w5,w4.drew=w5:=⟨_,rfl⟩;rw[hw5]at hS2⊢
         have HD6:Hid (BrAt m (.slice (some ⟨b1,o1,none⟩) n cap) (k+1) w w5):=hd' ⟨HBOX4.out.below hS2 HLW.out,HBW4.out.trans (hS2.mono HBW4.out.size),fun i hi=>by
          by_cases e:i=k
          ·rw[e];exact HBN.out
          ·exact HC.out.no i (by omega)⟩
         clear hw5 hS2;clear j0 j1 j3 j4 k7 z6 z8;go_wp2_with fail;go_roundw
         case rel=>exact⟨k+1,by omega,by go_num,HD6.out⟩
         case measure=>simp[intOf];omega
        | false=>
         have hb14:m.brNo k=14:=by rw[HBN1.out,if_neg (by rw[hf];simp)]
         have HNO:=hd' (B.no_br HH.out HALL.out HX.out HC.out.no (by rw[hb14];decide));have hat:=cat_any 14 s.line s.col;clear hb14;refine wp_region_held_drew (S:=Below w4.heap.size w4) (by kernel_rfl) (Below.refl _ _).drew (fun hS1=> ?_);refine takeS (i:=0) (d:=69) (v:=.pointer (some ⟨X,3,none⟩)) rfl rfl rfl (by kernel_rfl) (by kernel_rfl) (by kernel_rfl) (fun _ _ _ h=>h) (fun w' h=>by go_simp) hS1 ?_;simp only[Act.put,sA',sZ',sS'];refine takeS (i:=1) (d:=70) (v:=.int .i64 s.role) rfl rfl rfl (by kernel_rfl) (by kernel_rfl) (by kernel_rfl) (fun _ _ _ h=>h) (fun w' h=>by(have c:=(h.cell (p:=⟨X,3,none⟩) HLX.out).trans j3;go_simp)) hS1 ?_;simp only[Act.put,sA',sZ',sS'];refine takeS (i:=2) (d:=71) (v:=.bool true) rfl rfl rfl (by kernel_rfl) (by kernel_rfl) (by kernel_rfl) (fun _ _ _ h=>h) (fun w' h=>by go_simp) hS1 ?_;simp only[Act.put,sA',sZ',sS']
         refine takeS (i:=3) (d:=72) (v:=.bool true) rfl rfl rfl (by kernel_rfl) (by kernel_rfl) (by kernel_rfl) (fun _ _ _ h=>h) (fun w' h=>by go_simp) hS1 ?_;simp only[Act.put,sA',sZ',sS'];refine takeW (i:=4) (d:=73) (v:=.int .i64 (i:Int)) rfl rfl (by kernel_rfl) (by kernel_rfl) (by kernel_rfl) (fun _ _ _ h=>h) (by rfl) (fun w' h=>by go_simp) hS1 ?_;simp only[Act.put,sA',sZ',sS'];refine takeW (i:=5) (d:=74) (v:=.bool false) rfl rfl (by kernel_rfl) (by kernel_rfl) (by kernel_rfl) (fun _ _ _ h=>h) (by rfl) (fun w' h=>by go_simp) hS1 ?_;simp only[Act.put,sA',sZ',sS'];refine takeW (i:=6) (d:=75) (v:=.bool false) rfl rfl (by kernel_rfl) (by kernel_rfl) (by kernel_rfl) (fun _ _ _ h=>h) (by rfl) (fun w' h=>by go_simp) hS1 ?_;simp only[Act.put,sA',sZ',sS']
         refine takeW (i:=7) (d:=76) (v:=.pointer (some ⟨X,4,none⟩)) rfl rfl (by kernel_rfl) (by kernel_rfl) (by kernel_rfl) (fun _ _ _ h=>h) (by rfl) (fun w' h=>by go_simp) hS1 ?_;simp only[Act.put,sA',sZ',sS'];refine takeW (i:=8) (d:=77) (v:=.int .u64 (V:Int)) rfl rfl (by kernel_rfl) (by kernel_rfl) (by kernel_rfl) (fun _ _ _ h=>h) (by rfl) (fun w' h=>by(have c:=(h.cell (p:=⟨X,4,none⟩) HLX.out).trans j4;go_simp)) hS1 ?_;simp only[Act.put,sA',sZ',sS'];refine takeW (i:=9) (d:=78) (v:=.pointer (some ⟨w.heap.size,7,none⟩)) rfl rfl (by kernel_rfl) (by kernel_rfl) (by kernel_rfl) (fun _ _ _ h=>h) (by rfl) (fun w' h=>by go_simp) hS1 ?_;simp only[Act.put,sA',sZ',sS']
         refine takeW (i:=10) (d:=79) (v:=.slice (some ⟨b1,o1,none⟩) n cap) rfl rfl (by kernel_rfl) (by kernel_rfl) (by kernel_rfl) (fun _ _ _ h=>h) (by rfl) (fun w' h=>by(have c:=(h.cell (p:=⟨w.heap.size,7,none⟩) HLW.out).trans k7;go_simp)) hS1 ?_;simp only[Act.put,sA',sZ',sS'];refine takeW (i:=11) (d:=80) (v:=.int .i64 (i:Int)) rfl rfl (by kernel_rfl) (by kernel_rfl) (by kernel_rfl) (fun _ _ _ h=>h) (by rfl) (fun w' h=>by go_simp) hS1 ?_;simp only[Act.put,sA',sZ',sS'];refine takeW (i:=12) (d:=81) (v:=.pointer (some ⟨b1,o1+i*19,none⟩)) rfl rfl (by kernel_rfl) (by kernel_rfl) (by kernel_rfl) (fun _ _ _ h=>h) (by rfl) (fun w' h=>by go_simp) hS1 ?_;simp only[Act.put,sA',sZ',sS'];refine takeW (i:=13) (d:=82) (v:=.pointer (some ⟨b1,o1+i*19+6,none⟩)) rfl rfl (by kernel_rfl) (by kernel_rfl) (by kernel_rfl) (fun _ _ _ h=>h) (by rfl) (fun w' h=>by go_simp) hS1 ?_
         simp only[Act.put,sA',sZ',sS'];refine takeW (i:=14) (d:=83) (v:=.int .i64 (Z:Int)) rfl rfl (by kernel_rfl) (by kernel_rfl) (by kernel_rfl) (fun _ _ _ h=>h) (by rfl) (fun w' h=>by(have c:=(h.cell (p:=⟨b1,o1+i*19+6,none⟩) HLB.out).trans z6;go_simp)) hS1 ?_;simp only[Act.put,sA',sZ',sS'];refine takeW (i:=15) (d:=84) (v:=.pointer (some ⟨w.heap.size,7,none⟩)) rfl rfl (by kernel_rfl) (by kernel_rfl) (by kernel_rfl) (fun _ _ _ h=>h) (by rfl) (fun w' h=>by go_simp) hS1 ?_;simp only[Act.put,sA',sZ',sS'];refine takeW (i:=16) (d:=85) (v:=.slice (some ⟨b1,o1,none⟩) n cap) rfl rfl (by kernel_rfl) (by kernel_rfl) (by kernel_rfl) (fun _ _ _ h=>h) (by rfl) (fun w' h=>by(have c:=(h.cell (p:=⟨w.heap.size,7,none⟩) HLW.out).trans k7;go_simp)) hS1 ?_;simp only[Act.put,sA',sZ',sS']
         refine takeW (i:=17) (d:=86) (v:=.int .i64 (i:Int)) rfl rfl (by kernel_rfl) (by kernel_rfl) (by kernel_rfl) (fun _ _ _ h=>h) (by rfl) (fun w' h=>by go_simp) hS1 ?_;simp only[Act.put,sA',sZ',sS'];refine takeW (i:=18) (d:=87) (v:=.pointer (some ⟨b1,o1+i*19,none⟩)) rfl rfl (by kernel_rfl) (by kernel_rfl) (by kernel_rfl) (fun _ _ _ h=>h) (by rfl) (fun w' h=>by go_simp) hS1 ?_;simp only[Act.put,sA',sZ',sS'];refine takeW (i:=19) (d:=88) (v:=.pointer (some ⟨b1,o1+i*19+8,none⟩)) rfl rfl (by kernel_rfl) (by kernel_rfl) (by kernel_rfl) (fun _ _ _ h=>h) (by rfl) (fun w' h=>by go_simp) hS1 ?_;simp only[Act.put,sA',sZ',sS'];refine takeW (i:=20) (d:=89) (v:=.bool t.signed) rfl rfl (by kernel_rfl) (by kernel_rfl) (by kernel_rfl) (fun _ _ _ h=>h) (by rfl) (fun w' h=>by(have c:=(h.cell (p:=⟨b1,o1+i*19+8,none⟩) HLB.out).trans z8;go_simp)) hS1 ?_;simp only[Act.put,sA',sZ',sS']
         refine wpAnyH_ready (rs:=[21]) (by kernel_rfl) (by simp) ?_;refine AllReadyH.cons rfl (fun K hK=> ?_) AllReadyH.nil;go_simp;refine(cfits_any V Z t.signed _ HFB.out HFZ.out.1 HFZ.out.2).mono ?_;rw[hf];rintro e v1 ⟨rfl,rfl⟩;refine hK.out _ _ hS1 (fun hS2=> ?_);clear hK K;refine takeW (i:=22) (d:=91) (v:=.bool true) rfl rfl (by kernel_rfl) (by kernel_rfl) (by kernel_rfl) (fun _ _ _ h=>h) (by rfl) (fun w' h=>by go_simp) hS2 ?_;simp only[Act.put,sA',sZ',sS'];refine takeW (i:=23) (d:=92) (v:=.bool true) rfl rfl (by kernel_rfl) (by kernel_rfl) (by kernel_rfl) (fun _ _ _ h=>h) (by rfl) (fun w' h=>by go_simp) hS2 ?_;simp only[Act.put,sA',sZ',sS'];refine takeS (i:=24) (d:=93) (v:=.bool true) rfl rfl rfl (by kernel_rfl) (by kernel_rfl) (by kernel_rfl) (fun _ _ _ h=>h) (fun w' h=>by go_simp) hS2 ?_;simp only[Act.put,sA',sZ',sS'];refine wpAnyH_done (by kernel_rfl) ?_ _;clear hS1
         obtain⟨w5,hw5⟩:∃w5,w4.drew=w5:=⟨_,rfl⟩;rw[hw5]at hS2⊢;have i0:w5.cell? ⟨X,0,none⟩=some (.int .i64 s.line):=(hS2.cell (p:=⟨X,0,none⟩) HLX.out).trans j0;have i1:w5.cell? ⟨X,1,none⟩=some (.int .i64 s.col):=(hS2.cell (p:=⟨X,1,none⟩) HLX.out).trans j1;have HBW5:Hid (Below w.heap.size w w5):=hd' (HBW4.out.trans (hS2.mono HBW4.out.size));clear hw5 j0 j1 j3 j4 k7 z6 z8 hS2;go_wp2_with (go_at_call 50;refine(hat _).mono ?_;rintro e w6 ⟨rfl,hb6⟩);go_ret;exact⟨by rw[HNO.out];rfl,HBW5.out.trans (hb6.mono HBW5.out.size)⟩
       ·have e2:(z<0)=True:=by simp;omega
        have hbn:=br_none HX.out hr (by rw[HMZ2.out];exact hz0);have HNO:=hd' (B.no_br HH.out HALL.out HX.out HC.out.no (by rw[hbn];decide));have hat:=cat_any 14 s.line s.col;clear hbn hr hz0;refine wp_region_held_drew (S:=Below w4.heap.size w4) (by kernel_rfl) (Below.refl _ _).drew (fun hS1=> ?_);refine takeS (i:=0) (d:=69) (v:=.pointer (some ⟨X,3,none⟩)) rfl rfl rfl (by kernel_rfl) (by kernel_rfl) (by kernel_rfl) (fun _ _ _ h=>h) (fun w' h=>by go_simp) hS1 ?_;simp only[Act.put,sA',sZ',sS'];refine takeS (i:=1) (d:=70) (v:=.int .i64 s.role) rfl rfl rfl (by kernel_rfl) (by kernel_rfl) (by kernel_rfl) (fun _ _ _ h=>h) (fun w' h=>by(have c:=(h.cell (p:=⟨X,3,none⟩) HLX.out).trans j3;go_simp)) hS1 ?_;simp only[Act.put,sA',sZ',sS'];refine takeS (i:=2) (d:=71) (v:=.bool true) rfl rfl rfl (by kernel_rfl) (by kernel_rfl) (by kernel_rfl) (fun _ _ _ h=>h) (fun w' h=>by go_simp) hS1 ?_
        simp only[Act.put,sA',sZ',sS'];refine takeS (i:=3) (d:=72) (v:=.bool true) rfl rfl rfl (by kernel_rfl) (by kernel_rfl) (by kernel_rfl) (fun _ _ _ h=>h) (fun w' h=>by go_simp) hS1 ?_;simp only[Act.put,sA',sZ',sS'];refine takeW (i:=4) (d:=73) (v:=.int .i64 z) rfl rfl (by kernel_rfl) (by kernel_rfl) (by kernel_rfl) (fun _ _ _ h=>h) (by rfl) (fun w' h=>by go_simp) hS1 ?_;simp only[Act.put,sA',sZ',sS'];refine takeW (i:=5) (d:=74) (v:=.bool true) rfl rfl (by kernel_rfl) (by kernel_rfl) (by kernel_rfl) (fun _ _ _ h=>h) (by rfl) (fun w' h=>by go_simp) hS1 ?_;simp only[Act.put,sA',sZ',sS'];refine takeW (i:=6) (d:=75) (v:=.bool true) rfl rfl (by kernel_rfl) (by kernel_rfl) (by kernel_rfl) (fun _ _ _ h=>h) (by rfl) (fun w' h=>by go_simp) hS1 ?_;simp only[Act.put,sA',sZ',sS']
        refine takeU (i:=7) (d:=76) rfl rfl (by kernel_rfl) (by kernel_rfl) (by kernel_rfl) (fun _ _ _ h=>h) (by rfl) hS1 ?_;simp only[Act.put,sA',sZ',sS'];refine takeU (i:=8) (d:=77) rfl rfl (by kernel_rfl) (by kernel_rfl) (by kernel_rfl) (fun _ _ _ h=>h) (by rfl) hS1 ?_;simp only[Act.put,sA',sZ',sS'];refine takeU (i:=9) (d:=78) rfl rfl (by kernel_rfl) (by kernel_rfl) (by kernel_rfl) (fun _ _ _ h=>h) (by rfl) hS1 ?_;simp only[Act.put,sA',sZ',sS'];refine takeU (i:=10) (d:=79) rfl rfl (by kernel_rfl) (by kernel_rfl) (by kernel_rfl) (fun _ _ _ h=>h) (by rfl) hS1 ?_;simp only[Act.put,sA',sZ',sS'];refine takeU (i:=11) (d:=80) rfl rfl (by kernel_rfl) (by kernel_rfl) (by kernel_rfl) (fun _ _ _ h=>h) (by rfl) hS1 ?_;simp only[Act.put,sA',sZ',sS'];refine takeU (i:=12) (d:=81) rfl rfl (by kernel_rfl) (by kernel_rfl) (by kernel_rfl) (fun _ _ _ h=>h) (by rfl) hS1 ?_
        simp only[Act.put,sA',sZ',sS'];refine takeU (i:=13) (d:=82) rfl rfl (by kernel_rfl) (by kernel_rfl) (by kernel_rfl) (fun _ _ _ h=>h) (by rfl) hS1 ?_;simp only[Act.put,sA',sZ',sS'];refine takeU (i:=14) (d:=83) rfl rfl (by kernel_rfl) (by kernel_rfl) (by kernel_rfl) (fun _ _ _ h=>h) (by rfl) hS1 ?_;simp only[Act.put,sA',sZ',sS'];refine takeU (i:=15) (d:=84) rfl rfl (by kernel_rfl) (by kernel_rfl) (by kernel_rfl) (fun _ _ _ h=>h) (by rfl) hS1 ?_;simp only[Act.put,sA',sZ',sS'];refine takeU (i:=16) (d:=85) rfl rfl (by kernel_rfl) (by kernel_rfl) (by kernel_rfl) (fun _ _ _ h=>h) (by rfl) hS1 ?_;simp only[Act.put,sA',sZ',sS'];refine takeU (i:=17) (d:=86) rfl rfl (by kernel_rfl) (by kernel_rfl) (by kernel_rfl) (fun _ _ _ h=>h) (by rfl) hS1 ?_;simp only[Act.put,sA',sZ',sS']
        refine takeU (i:=18) (d:=87) rfl rfl (by kernel_rfl) (by kernel_rfl) (by kernel_rfl) (fun _ _ _ h=>h) (by rfl) hS1 ?_;simp only[Act.put,sA',sZ',sS'];refine takeU (i:=19) (d:=88) rfl rfl (by kernel_rfl) (by kernel_rfl) (by kernel_rfl) (fun _ _ _ h=>h) (by rfl) hS1 ?_;simp only[Act.put,sA',sZ',sS'];refine takeU (i:=20) (d:=89) rfl rfl (by kernel_rfl) (by kernel_rfl) (by kernel_rfl) (fun _ _ _ h=>h) (by rfl) hS1 ?_;simp only[Act.put,sA',sZ',sS'];refine takeU (i:=21) (d:=90) rfl rfl (by kernel_rfl) (by kernel_rfl) (by kernel_rfl) (fun _ _ _ h=>h) (by rfl) hS1 ?_;simp only[Act.put,sA',sZ',sS'];refine takeU (i:=22) (d:=91) rfl rfl (by kernel_rfl) (by kernel_rfl) (by kernel_rfl) (fun _ _ _ h=>h) (by rfl) hS1 ?_;simp only[Act.put,sA',sZ',sS']
        refine takeW (i:=23) (d:=92) (v:=.bool true) rfl rfl (by kernel_rfl) (by kernel_rfl) (by kernel_rfl) (fun _ _ _ h=>h) (by rfl) (fun w' h=>by go_simp) hS1 ?_;simp only[Act.put,sA',sZ',sS'];refine takeS (i:=24) (d:=93) (v:=.bool true) rfl rfl rfl (by kernel_rfl) (by kernel_rfl) (by kernel_rfl) (fun _ _ _ h=>h) (fun w' h=>by go_simp) hS1 ?_;simp only[Act.put,sA',sZ',sS'];refine wpAnyH_done (by kernel_rfl) ?_ _;obtain⟨w5,hw5⟩:∃w5,w4.drew=w5:=⟨_,rfl⟩;rw[hw5]at hS1⊢;have i0:w5.cell? ⟨X,0,none⟩=some (.int .i64 s.line):=(hS1.cell (p:=⟨X,0,none⟩) HLX.out).trans j0;have i1:w5.cell? ⟨X,1,none⟩=some (.int .i64 s.col):=(hS1.cell (p:=⟨X,1,none⟩) HLX.out).trans j1;have HBW5:Hid (Below w.heap.size w w5):=hd' (HBW4.out.trans (hS1.mono HBW4.out.size));clear hw5 j0 j1 j3 j4 k7 hS1;go_wp2_with (go_at_call 50;refine(hat _).mono ?_;rintro e w6 ⟨rfl,hb6⟩);go_ret
        exact⟨by rw[HNO.out];rfl,HBW5.out.trans (hb6.mono HBW5.out.size)⟩
      ·have e1:(s.role==2)=false:=by simp[hr]
       have HBN:=hd' (br_not HX.out hr);clear hr;refine wp_region_held_drew (S:=Below w4.heap.size w4) (by kernel_rfl) (Below.refl _ _).drew (fun hS1=> ?_);refine takeS (i:=0) (d:=69) (v:=.pointer (some ⟨X,3,none⟩)) rfl rfl rfl (by kernel_rfl) (by kernel_rfl) (by kernel_rfl) (fun _ _ _ h=>h) (fun w' h=>by go_simp) hS1 ?_;simp only[Act.put,sA',sZ',sS'];refine takeS (i:=1) (d:=70) (v:=.int .i64 s.role) rfl rfl rfl (by kernel_rfl) (by kernel_rfl) (by kernel_rfl) (fun _ _ _ h=>h) (fun w' h=>by(have c:=(h.cell (p:=⟨X,3,none⟩) HLX.out).trans j3;go_simp)) hS1 ?_;simp only[Act.put,sA',sZ',sS'];refine takeS (i:=2) (d:=71) (v:=.bool false) rfl rfl rfl (by kernel_rfl) (by kernel_rfl) (by kernel_rfl) (fun _ _ _ h=>h) (fun w' h=>by go_simp) hS1 ?_;simp only[Act.put,sA',sZ',sS']
       refine takeS (i:=3) (d:=72) (v:=.bool false) rfl rfl rfl (by kernel_rfl) (by kernel_rfl) (by kernel_rfl) (fun _ _ _ h=>h) (fun w' h=>by go_simp) hS1 ?_;simp only[Act.put,sA',sZ',sS'];refine takeU (i:=4) (d:=73) rfl rfl (by kernel_rfl) (by kernel_rfl) (by kernel_rfl) (fun _ _ _ h=>h) (by rfl) hS1 ?_;simp only[Act.put,sA',sZ',sS'];refine takeU (i:=5) (d:=74) rfl rfl (by kernel_rfl) (by kernel_rfl) (by kernel_rfl) (fun _ _ _ h=>h) (by rfl) hS1 ?_;simp only[Act.put,sA',sZ',sS'];refine takeU (i:=6) (d:=75) rfl rfl (by kernel_rfl) (by kernel_rfl) (by kernel_rfl) (fun _ _ _ h=>h) (by rfl) hS1 ?_;simp only[Act.put,sA',sZ',sS'];refine takeU (i:=7) (d:=76) rfl rfl (by kernel_rfl) (by kernel_rfl) (by kernel_rfl) (fun _ _ _ h=>h) (by rfl) hS1 ?_;simp only[Act.put,sA',sZ',sS']
       refine takeU (i:=8) (d:=77) rfl rfl (by kernel_rfl) (by kernel_rfl) (by kernel_rfl) (fun _ _ _ h=>h) (by rfl) hS1 ?_;simp only[Act.put,sA',sZ',sS'];refine takeU (i:=9) (d:=78) rfl rfl (by kernel_rfl) (by kernel_rfl) (by kernel_rfl) (fun _ _ _ h=>h) (by rfl) hS1 ?_;simp only[Act.put,sA',sZ',sS'];refine takeU (i:=10) (d:=79) rfl rfl (by kernel_rfl) (by kernel_rfl) (by kernel_rfl) (fun _ _ _ h=>h) (by rfl) hS1 ?_;simp only[Act.put,sA',sZ',sS'];refine takeU (i:=11) (d:=80) rfl rfl (by kernel_rfl) (by kernel_rfl) (by kernel_rfl) (fun _ _ _ h=>h) (by rfl) hS1 ?_;simp only[Act.put,sA',sZ',sS'];refine takeU (i:=12) (d:=81) rfl rfl (by kernel_rfl) (by kernel_rfl) (by kernel_rfl) (fun _ _ _ h=>h) (by rfl) hS1 ?_;simp only[Act.put,sA',sZ',sS'];refine takeU (i:=13) (d:=82) rfl rfl (by kernel_rfl) (by kernel_rfl) (by kernel_rfl) (fun _ _ _ h=>h) (by rfl) hS1 ?_
       simp only[Act.put,sA',sZ',sS'];refine takeU (i:=14) (d:=83) rfl rfl (by kernel_rfl) (by kernel_rfl) (by kernel_rfl) (fun _ _ _ h=>h) (by rfl) hS1 ?_;simp only[Act.put,sA',sZ',sS'];refine takeU (i:=15) (d:=84) rfl rfl (by kernel_rfl) (by kernel_rfl) (by kernel_rfl) (fun _ _ _ h=>h) (by rfl) hS1 ?_;simp only[Act.put,sA',sZ',sS'];refine takeU (i:=16) (d:=85) rfl rfl (by kernel_rfl) (by kernel_rfl) (by kernel_rfl) (fun _ _ _ h=>h) (by rfl) hS1 ?_;simp only[Act.put,sA',sZ',sS'];refine takeU (i:=17) (d:=86) rfl rfl (by kernel_rfl) (by kernel_rfl) (by kernel_rfl) (fun _ _ _ h=>h) (by rfl) hS1 ?_;simp only[Act.put,sA',sZ',sS'];refine takeU (i:=18) (d:=87) rfl rfl (by kernel_rfl) (by kernel_rfl) (by kernel_rfl) (fun _ _ _ h=>h) (by rfl) hS1 ?_;simp only[Act.put,sA',sZ',sS']
       refine takeU (i:=19) (d:=88) rfl rfl (by kernel_rfl) (by kernel_rfl) (by kernel_rfl) (fun _ _ _ h=>h) (by rfl) hS1 ?_;simp only[Act.put,sA',sZ',sS'];refine takeU (i:=20) (d:=89) rfl rfl (by kernel_rfl) (by kernel_rfl) (by kernel_rfl) (fun _ _ _ h=>h) (by rfl) hS1 ?_;simp only[Act.put,sA',sZ',sS'];refine takeU (i:=21) (d:=90) rfl rfl (by kernel_rfl) (by kernel_rfl) (by kernel_rfl) (fun _ _ _ h=>h) (by rfl) hS1 ?_;simp only[Act.put,sA',sZ',sS'];refine takeU (i:=22) (d:=91) rfl rfl (by kernel_rfl) (by kernel_rfl) (by kernel_rfl) (fun _ _ _ h=>h) (by rfl) hS1 ?_;simp only[Act.put,sA',sZ',sS'];refine takeU (i:=23) (d:=92) rfl rfl (by kernel_rfl) (by kernel_rfl) (by kernel_rfl) (fun _ _ _ h=>h) (by rfl) hS1 ?_;simp only[Act.put,sA',sZ',sS']
       refine takeS (i:=24) (d:=93) (v:=.bool false) rfl rfl rfl (by kernel_rfl) (by kernel_rfl) (by kernel_rfl) (fun _ _ _ h=>h) (fun w' h=>by go_simp) hS1 ?_;simp only[Act.put,sA',sZ',sS'];refine wpAnyH_done (by kernel_rfl) ?_ _;obtain⟨w5,hw5⟩:∃w5,w4.drew=w5:=⟨_,rfl⟩;rw[hw5]at hS1⊢
       have HD6:Hid (BrAt m (.slice (some ⟨b1,o1,none⟩) n cap) (k+1) w w5):=hd' ⟨HBOX4.out.below hS1 HLW.out,HBW4.out.trans (hS1.mono HBW4.out.size),fun i hi=>by
        by_cases e:i=k
        ·rw[e];exact HBN.out
        ·exact HC.out.no i (by omega)⟩
       clear hw5 hS1;clear j0 j1 j3 j4 k7;go_wp2_with fail;go_roundw
       case rel=>exact⟨k+1,by omega,by go_num,HD6.out⟩
       case measure=>simp[intOf];omega
     ·obtain rfl:n=k:=by omega
      have hbr:∀i,i<m.sigs.length→m.brNo i=0:=fun i hi=>HC.out.no i (by rw[HN.out];exact hi)
      have hrr:=RC.range HC.out.box;have hap:=HAP.out m sa n cap wr HM.out (HS.out.below HC.out.bel (lR' _)) hn64 HH.out HALL.out hbr;clear hbr
      go_wp2_with (first
       | refine wpList_load_mid (by rfl) 27 _ (by rfl) w.heap.size 0 (by rfl) (msgC m (.slice sa n cap)).toList _ hrr Tryz.underlying27 (by rfl) (by kernel_rfl) ?_
       | (go_at_call 53;refine hap.mono ?_;rintro e w5 ⟨rfl,hb5⟩))
      go_ret;exact⟨rfl,HC.out.bel.trans (hb5.mono HC.out.bel.size)⟩
 ·have hno:=B.no_head hh
  have HNO:=hd' hno;have hat:=cat_any m.headNo m.line m.col;obtain⟨hd,hhd⟩:∃hd,m.headNo=hd:=⟨_,rfl⟩;rw[hhd]at hhead hat
  have e1:(hd !=0)=true:=by rw[←hhd];simp[hh]
  have HD:=hd' hhd;clear hno hh hhd
  go_upto_region 3 with(first
   | refine wpList_load_mid (by rfl) 27 _ (by rfl) w.heap.size 0 (by rfl) (msgC m (.slice sa n cap)).toList _ hrr Tryz.underlying27 (by rfl) (by kernel_rfl) ?_
   | (go_at_call 49;refine hhead.mono ?_;rintro e w2 ⟨rfl,hb2⟩))
  have hrow2:=HR.out.below hb2 HZ.out;have k0:w2.cell? ⟨w.heap.size,0,none⟩=some (.int .i64 m.line):=hrow2.cell (j:=0) rfl;have k1:w2.cell? ⟨w.heap.size,1,none⟩=some (.int .i64 m.col):=hrow2.cell (j:=1) rfl;have HB2:=hd' (HB.out.trans (hb2.mono HB.out.size));clear hrow2 hb2 hrr hhead;go_wp2_with (go_at_call 50;refine(hat _).mono ?_;rintro e w3 ⟨rfl,hb3⟩);go_ret;exact⟨by rw[HNO.out,HD.out];rfl,HB2.out.trans (hb3.mono HB2.out.size)⟩
end Code
end Go.Proofs.YtljhklblbafjkaaGreatDoor
