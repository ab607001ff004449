/- Package lower: the program that lays a message's values. -/
import Derived.Test.YtljhklblbafjkaaGreatDoorLxP
import Derived.Test.YtljhklblbafjkaaGreatDoorLwZ
open Go.Lib renaming hid→hd'
open Nat renaming le_refl→lR'
open List renaming setIfInBounds_toArray→sA',set_cons_zero→sZ',set_cons_succ→sS'
namespace Go.Proofs.YtljhklblbafjkaaGreatDoor
open Go.RowKit
namespace Code
attribute [local go_sem ↓] Go.wp_at_zero Go.wp_at_succ
theorem flatI_more{α:Type}(f:Nat→α→List B.Ins)(l:List α)(k:Nat)(x:α)(h:l[k]? =some x):B.flatI f 0 (l.take (k+1))=B.flatI f 0 (l.take k)++f k x:=by
 rw[List.take_add_one,h]
 show B.flatI f 0 (l.take k++[x])=_
 rw[B.flatI_append];have hlt:=(List.getElem?_eq_some_iff.1 h).1;rw[List.length_take,Nat.min_eq_left (by omega),Nat.zero_add]
 show _++(f k x++[])=_
 rw[List.append_nil]
theorem fine_sig{m:B.Msg}(h:m.no.1=0){k:Nat}{s:B.Sig}(hs:m.sigs[k]? =some s):s.placeNo=0:=by
 obtain⟨_,h2,_⟩:=B.Msg.no_zero h;have:=h2 k (List.getElem?_eq_some_iff.1 hs).1;rw[sigNo_of hs]at this
 by_cases h0:s.aloneNo m.size=0
 ·have hw:=(B.Sig.alone_where h0).1
  unfold B.Sig.whereNo at hw
  by_cases h1:s.placeNo=0
  ·exact h1
  ·rw[if_pos h1]at hw;exact absurd hw h1
 ·rw[if_pos h0]at this;exact absurd this h0
theorem packHead_of{m:B.Msg}{hd:List B.Ins}(h:(if 0<m.size then [⟨1,2,0,0,0⟩,⟨11,2,0,m.size,0⟩]else []:List B.Ins)=hd):
    (0≤B.muxZ m.sigs→m.packHead=hd++[⟨15,0,B.muxZ m.sigs,0,0⟩])∧(¬0≤B.muxZ m.sigs→m.packHead=hd):=by
 unfold B.Msg.packHead B.muxZ;rw[h]
 cases B.muxI m.sigs with
 | none=>exact⟨fun h=>absurd h (by decide),fun _=>by simp⟩
 | some i=>exact⟨fun _=>rfl,fun h=>absurd (show(0:Int)≤((i:Nat):Int) by omega) h⟩
def NoProg(m:B.Msg)(w:World)(e:Ending)(w':World):Prop:=e= .returned (.tuple #[.slice none 0 0,errL m.no.1 m.no.2.1 m.no.2.2])∧Below w.heap.size w w'
set_option maxRecDepth 100000 in
set_option maxHeartbeats 6400000 in
theorem pack_no(m:B.Msg)(sa:Option Addr)(n cap:Nat)(w:World)(hm:MsgWf m)(hs:SigsAt w sa n m.sigs)(hT:UTabs w)(h:m.no.1≠0):
    Calls Tryz.prog 14 #[.agg (msgC m (.slice sa n cap))] w (NoProg m w):=by
 have hrow:=RC.new (msgC m (.slice sa n cap)) 27 w (n:=8) rfl rfl;have hbel:Below w.heap.size w (w.alloc (.cells (msgC m (.slice sa n cap)) 27)):=(Below.refl _ _).alloc (lR' _) _;obtain⟨w1,hw1⟩:∃w1,w.alloc (.cells (msgC m (.slice sa n cap)) 27)=w1:=⟨_,rfl⟩;rw[hw1]at hrow hbel;have hrr:=RC.range hrow;have hmsg:=message_any apart_any m sa n cap w1 hm (hs.below hbel (lR' _)) (hT.below hbel (lR' _));unfold ErrOut at hmsg;unfold NoProg;obtain⟨x,hx⟩:∃x,errL m.no.1 m.no.2.1 m.no.2.2=x:=⟨_,rfl⟩
 have hxi:∃T v,x= .iface T v:=by rw[←hx];unfold errL;rw[if_neg h];exact⟨_,_,rfl⟩
 rw[hx]at hmsg⊢;obtain⟨T,v,rfl⟩:=hxi;have HB:=hd' hbel;clear hrow hbel hm hs hT h hx;go_enter Tryz.func14,Tryz.ntmps14
 go_upto_region 1 with fail
 try rw[hw1]
 clear hw1
 go_wp2_with (first
  | refine wpList_load_mid (by rfl) 27 _ (by rfl) w.heap.size 0 (by rfl) (msgC m (.slice sa n cap)).toList _ hrr Tryz.underlying27 (by rfl) (by kernel_rfl) ?_
  | (go_at_call 22;refine hmsg.mono ?_;rintro e w2 ⟨rfl,hb2⟩))
 go_ret2;exact⟨rfl,HB.out.trans (hb2.mono HB.out.size)⟩
set_option maxRecDepth 100000 in
set_option maxHeartbeats 25600000 in
theorem pack_yes(m:B.Msg)(sa:Option Addr)(n cap:Nat)(w:World)(hm:MsgWf m)(hs:SigsAt w sa n m.sigs)(hT:UTabs w)(h:m.no.1=0):
    Calls Tryz.prog 14 #[.agg (msgC m (.slice sa n cap))] w (LayOut m.packI w):=by
 have hn:=hs.len;have hrow:=RC.new (msgC m (.slice sa n cap)) 27 w (n:=8) rfl rfl;have hbel:Below w.heap.size w (w.alloc (.cells (msgC m (.slice sa n cap)) 27)):=(Below.refl _ _).alloc (lR' _) _;obtain⟨w1,hw1⟩:∃w1,w.alloc (.cells (msgC m (.slice sa n cap)) 27)=w1:=⟨_,rfl⟩;rw[hw1]at hrow hbel;have hrr:=RC.range hrow;have hmsg:=message_any apart_any m sa n cap w1 hm (hs.below hbel (lR' _)) (hT.below hbel (lR' _));unfold ErrOut errL at hmsg;rw[if_pos h]at hmsg
 have hz1:w.heap.size<w1.heap.size:=by rw[←hw1];simp
 have hn64:n≤64:=by rw[hn];exact(head_len (B.Msg.no_zero h).1).1
 have HROW:=hd' hrow;have HB:=hd' hbel;have HZ:=hd' hz1;have HM:=hd' hm;have HS:=hd' hs;have HN:=hd' hn;have H0:=hd' h;clear hrow hbel hm hs hT h hn hz1;go_enter Tryz.func14,Tryz.ntmps14
 go_upto_region 1 with fail
 try rw[hw1]
 clear hw1
 go_upto_region 4 with(first
  | refine wpList_load_mid (by rfl) 27 _ (by rfl) w.heap.size 0 (by rfl) (msgC m (.slice sa n cap)).toList _ hrr Tryz.underlying27 (by rfl) (by kernel_rfl) ?_
  | (go_at_call 22;refine hmsg.mono ?_;rintro e w2 ⟨rfl,hb2⟩))
 have hrow2:=HROW.out.below hb2 HZ.out;have HBW2:=hd' (HB.out.trans (hb2.mono HB.out.size));have hlines:=lines_any w2;obtain⟨L,hL⟩:∃L,w2.heap.size=L:=⟨_,rfl⟩;unfold LinesOut putV at hlines;rw[hL]at hlines;have HLW:Hid (w.heap.size<L):=hd' (by rw[←hL];exact hrow2.blk);have HS2:Hid (SigsAt w2 sa n m.sigs):=hd' (HS.out.below HBW2.out (lR' _));have HL2:=hd' hL;have HROW2:=hd' hrow2;clear hrow2 hb2 hrr hmsg hL HROW HB HZ HS
 go_upto_region 5 with(go_at_call 23;refine hlines.mono ?_;rintro e w3 ⟨rfl,hln,hb3⟩)
 have hrow3:RC w3 w.heap.size 27 8 (msgC m (.slice sa n cap)):=HROW2.out.below hb3 HLW.out;have k5:w3.cell? ⟨w.heap.size,5,none⟩=some (.int .i64 m.size):=hrow3.cell (j:=5) rfl;have HLN:=hd' hln;have HB3:=hd' hb3;clear hrow3 hln hb3 hlines;rcases Classical.em (0<m.size)with hsz | hsz
 case' inl=>
  have e1:(0<m.size)=True:=by simp[hsz]
  have hd:(if 0<m.size then [⟨1,2,0,0,0⟩,⟨11,2,0,m.size,0⟩]else []:List B.Ins)=[⟨1,2,0,0,0⟩,⟨11,2,0,m.size,0⟩]:=if_pos hsz;have HD:=hd' hd;clear hsz hd;go_wp2_with fail;have hpe:=progAt_new [⟨1,2,0,0,0⟩,⟨11,2,0,m.size,0⟩] #[.int .i64 1,.int .i64 2,.int .i64 0,.int .i64 0,.int .u64 0,.int .i64 11,.int .i64 2,.int .i64 0,.int .i64 m.size,.int .u64 0] 2 74 w3 rfl rfl;have hbe:Below w3.heap.size w3 (w3.alloc (.cells #[.int .i64 1,.int .i64 2,.int .i64 0,.int .i64 0,.int .u64 0,.int .i64 11,.int .i64 2,.int .i64 0,.int .i64 m.size,.int .u64 0] 74)):=(Below.refl _ _).alloc (lR' _) _;have hlne:=HLN.out.below hbe;have hput:=put_any L none 0 0 [] (some ⟨w3.heap.size,0,none⟩) 2 2 _ _ hlne hpe (fun h=>absurd h (by simp)) (by decide);refine hput.mono ?_;intro e v3 hh;obtain⟨ao3,cap3,rfl,hln3,hg3⟩:=hh.grew
  have HB33:Hid (Below L w2 v3):=hd' (HB3.out.trans ((hbe.mono (Nat.le_of_lt HLN.out.lt)).trans hg3.bel));obtain⟨n3,hn3⟩:∃n3,n3=0+2:=⟨_,rfl⟩;rw[←hn3]at hln3
  have hn32:n3≤2:=by omega
  obtain⟨hd1,hhd⟩:∃hd1,([]++[⟨1,2,0,0,0⟩,⟨11,2,0,m.size,0⟩]:List B.Ins)=hd1:=⟨_,rfl⟩;rw[hhd]at hln3;have HHD:Hid ((if 0<m.size then [⟨1,2,0,0,0⟩,⟨11,2,0,m.size,0⟩]else []:List B.Ins)=hd1):=hd' (by rw[HD.out,←hhd];rfl);have HLN3:=hd' hln3;clear hpe hbe hlne hput hh hln3 hg3 HLN HB3 hn3 hhd HD k5 e1
  go_upto_region 7 with fail
 case' inr=>
  have e1:(0<m.size)=False:=by simp;omega
  have hd:(if 0<m.size then [⟨1,2,0,0,0⟩,⟨11,2,0,m.size,0⟩]else []:List B.Ins)=[]:=if_neg hsz;clear hsz;obtain⟨v3,hv3⟩:∃v,v=w3:=⟨_,rfl⟩;subst hv3;obtain⟨ao3,hao⟩:∃a:Option Addr,a=none:=⟨_,rfl⟩;obtain⟨n3,hn3⟩:∃n3:Nat,n3=0:=⟨_,rfl⟩;obtain⟨cap3,hc3⟩:∃n3:Nat,n3=0:=⟨_,rfl⟩
  have hln3:LnAt v3 L ao3 n3 cap3 []:=by rw[hao,hn3,hc3];exact HLN.out
  have HB33:=HB3
  have hn32:n3≤2:=by omega
  obtain⟨hd1,hhd⟩:∃hd1:List B.Ins,[]=hd1:=⟨_,rfl⟩;rw[hhd]at hln3;have HHD:Hid ((if 0<m.size then [⟨1,2,0,0,0⟩,⟨11,2,0,m.size,0⟩]else []:List B.Ins)=hd1):=hd' (by rw[hd,hhd]);have HLN3:=hd' hln3;clear hln3 hd hao hn3 hc3 hhd HLN HB3
  go_upto_region 7 with fail
  clear k5 e1
 all_goals
  have hrow4:RC v3 w.heap.size 27 8 (msgC m (.slice sa n cap)):=HROW2.out.below HB33.out HLW.out;have hrr:=RC.range hrow4;have hmux:=mux_any m sa n cap v3 (HS2.out.below HB33.out (by rw[HL2.out];exact lR' _)) hn64
  go_upto_region 8 with(first
   | refine wpList_load_mid (by rfl) 27 _ (by rfl) w.heap.size 0 (by rfl) (msgC m (.slice sa n cap)).toList _ hrr Tryz.underlying27 (by rfl) (by kernel_rfl) ?_
   | (go_at_call 24;refine hmux.mono ?_;rintro e v4 ⟨rfl,hb4⟩))
  have HLN4:=hd' (HLN3.out.below hb4);have HB4:=hd' (HB33.out.trans (hb4.mono (Nat.le_of_lt HLN3.out.lt)));obtain⟨z,hz⟩:∃z,B.muxZ m.sigs=z:=⟨_,rfl⟩;have HMZ:=hd' hz;rw[hz];clear hz hb4 hrow4 hrr hmux HLN3 HB33;rcases Classical.em (0≤z)with hz0 | hz0
  case' inl=>
   have e1:(0≤z)=True:=by simp[hz0]
   have HD:=hd' ((packHead_of HHD.out).1 (by rw[HMZ.out];exact hz0));clear hz0;go_wp2_with fail;have hpe:=progAt_new [⟨15,0,z,0,0⟩] #[.int .i64 15,.int .i64 0,.int .i64 z,.int .i64 0,.int .u64 0] 1 74 v4 rfl rfl;have hbe:Below v4.heap.size v4 (v4.alloc (.cells #[.int .i64 15,.int .i64 0,.int .i64 z,.int .i64 0,.int .u64 0] 74)):=(Below.refl _ _).alloc (lR' _) _;have hlne:=HLN4.out.below hbe;have hb0:(n3+1)*40≤140737488355328:=Nat.le_trans (Nat.mul_le_mul_right 40 (by omega:n3+1≤1000)) (by decide);have hput:=put_any L ao3 n3 cap3 hd1 (some ⟨v4.heap.size,0,none⟩) 1 1 _ _ hlne hpe (fun h=>absurd h (by simp)) hb0;refine hput.mono ?_;intro e v5 hh;obtain⟨ao5,cap5,rfl,hln5,hg5⟩:=hh.grew;have HB5:Hid (Below L w2 v5):=hd' (HB4.out.trans ((hbe.mono (Nat.le_of_lt HLN4.out.lt)).trans hg5.bel));obtain⟨n5,hn5⟩:∃n5,n5=n3+1:=⟨_,rfl⟩;rw[←hn5]at hln5
   have hn53:n5≤3:=by omega
   obtain⟨hd2,hhd⟩:∃hd2,hd1++[⟨15,0,z,0,0⟩]=hd2:=⟨_,rfl⟩;rw[hhd]at hln5;have HPH:Hid (m.packHead=hd2):=hd' (by rw[HD.out,HMZ.out,hhd]);have HLN5:=hd' hln5;clear hpe hbe hlne hb0 hput hh hln5 hg5 HLN4 HB4 hn5 hhd HD e1
   go_upto_region 10 with fail
  case' inr=>
   have e1:(0≤z)=False:=by simp;omega
   have HD:=hd' ((packHead_of HHD.out).2 (by rw[HMZ.out];exact hz0));clear hz0;obtain⟨v5,hv5⟩:∃v,v=v4:=⟨_,rfl⟩;subst hv5;obtain⟨ao5,hao⟩:∃a:Option Addr,a=ao3:=⟨_,rfl⟩;obtain⟨n5,hn5⟩:∃n5:Nat,n5=n3:=⟨_,rfl⟩;obtain⟨cap5,hc5⟩:∃n5:Nat,n5=cap3:=⟨_,rfl⟩
   have hln5:LnAt v5 L ao5 n5 cap5 hd1:=by rw[hao,hn5,hc5];exact HLN4.out
   have HB5:=HB4
   have hn53:n5≤3:=by omega
   obtain⟨hd2,hhd⟩:∃hd2:List B.Ins,hd1=hd2:=⟨_,rfl⟩;have HPH:Hid (m.packHead=hd2):=hd' (by rw[HD.out,hhd]);rw[hhd]at hln5;have HLN5:=hd' hln5;clear hln5 HD hao hn5 hc5 hhd HLN4 HB4
   go_upto_region 10 with fail
   clear e1
  all_goals
   have hrow5:RC v5 w.heap.size 27 8 (msgC m (.slice sa n cap)):=HROW2.out.below HB5.out HLW.out;have k7:v5.cell? ⟨w.heap.size,7,none⟩=some (.slice sa n cap):=hrow5.cell (j:=7) rfl;clear hrow5 hn32;go_wp2_with fail;clear k7
   go_loopw [43] (fun x wr=>∃k nn cp ao,k≤n∧x= .int .i64 (k:Nat)∧nn≤3+200*k∧Below L w2 wr∧Hid (LnAt wr L ao nn cp (hd2++B.flatI B.packSig 0 (m.sigs.take k)))) (fun x _=>n-(intOf x).toNat)
   case atStart=>exact⟨0,n5,cap5,ao5,by omega,rfl,by omega,HB5.out,hd' (by rw[List.take_zero];show LnAt v5 L ao5 n5 cap5 (hd2++[]);rw[List.append_nil];exact HLN5.out)⟩
   case round=>
    obtain⟨k,nn,cp,ao,hk,rfl,hnn,hbr,HLR⟩:=hrel;have HBR:=hd' hbr;have HNK:=hd' hnn;clear HLN5 HB5 hbr hnn hn53
    by_cases hlt:k<n
    ·have hx:m.sigs[k]? =some (m.sigs[k]'(by have:=HN.out;omega)):=List.getElem?_eq_getElem _
     generalize m.sigs[k]'(by have:=HN.out;omega)=s at hx;obtain⟨b1,o1,rfl,hl1,a1,n1,c1,hrow,hto,hn1⟩:=HS2.out.at_ k s hx;have hrr:=cells_below hrow HBR.out (by rw[←HL2.out];exact hl1);have HSW:=hd' (HM.out.sigs s (List.mem_of_getElem? hx));have HPL:=hd' (fine_sig H0.out hx);have HX:=hd' (flatI_more B.packSig m.sigs k s hx)
     have q0:(0:Int)≤(k:Int):=by omega
     have q1:(k:Int)<n:=by omega
     clear hx hrow hto hl1 hn1
     go_upto_region 13 with(first
      | refine wpList_load_mid (by rfl) 71 _ (by rfl) b1 (o1+k*19) (by rfl) (sigC s (.slice a1 n1 c1)).toList _ hrr Tryz.underlying71 (by rfl) (by rw[infoN71];rfl) ?_
      | (refine wpList_store_mid (by rfl) 71 _ _ (by rfl) wr.heap.size 0 (sigC s (.slice a1 n1 c1)) (by rfl) (by rfl) (there_alloc _ _ _ (by rfl)) (by rw[infoN71];rfl) (ones_sig _ _ _ _) ?_;generalize hw4:World.setCells _ _ _ _=w4))
     obtain⟨X,hX⟩:∃X,wr.heap.size=X:=⟨_,rfl⟩
     have hb4:Below wr.heap.size wr w4:=by
      rw[←hw4];exact((Below.refl _ _).alloc (lR' _) _).grown (grownBy_setCells _ _ _ _) (by simp) (fun k hk=>by cases hk;exact lR' _)
     have hrow4:RC w4 X 71 19 (sigC s (.slice a1 n1 c1)):=by rw[←hw4,←hX];exact RC.over _ _ _ _ (by rfl) rfl
     have HLN4:=hd' (HLR.out.below hb4);have hgr4:Grew L ao ao wr w4:=Grew.of_below hb4 (Nat.le_of_lt HLR.out.lt);have HG4:=hd' hgr4;have hlaid:=laid_any k s (.slice a1 n1 c1) w4 HSW.out HPL.out (by omega);have hrr4:=RC.range hrow4;have HROW4:=hd' hrow4
     have hfl:∀g,ao=some ⟨g,0,none⟩→g<w4.heap.size:=fun g e=>by
      rcases OwnP.form HLN4.out.own with⟨e0,_⟩ | ⟨g',e1,_,h⟩
      ·rw[e0]at e;cases e
      ·rw[e1]at e;cases e;exact h
     have HFL:=hd' hfl;rw[hX];clear hw4 hb4 hrow4 hgr4 hrr hX hfl HLR
     go_upto_region 16 with(first
      | refine wpList_load_mid (by rfl) 71 _ (by rfl) X 0 (by rfl) (sigC s (.slice a1 n1 c1)).toList _ hrr4 Tryz.underlying71 (by rfl) (by rw[infoN71];rfl) ?_
      | (go_at_call 40;refine hlaid.mono ?_;rintro e w6 ⟨a6,c6,rfl,hown6,hb6⟩))
     have hrow6:=HROW4.out.below hb6 HROW4.out.blk;have hrr6:=RC.range hrow6;have hln6:=HLN4.out.below hb6;have hg6:=HG4.out.trans (Grew.of_below hb6 (Nat.le_of_lt HLN4.out.lt));have hlen6:(s.layI k).length≤194:=B.layI_len s k (B.Sig.place_ok HPL.out).1.2;have hbl:(s.branchI (s.layI k)).length≤(s.layI k).length+1:=B.branch_len
     have hnew:nn+(s.branchI (s.layI k)).length≤3+200*(k+1):=by have:=HNK.out;omega
     have hby:(nn+(s.layI k).length+1)*40≤140737488355328:=Nat.le_trans (Nat.mul_le_mul_right 40 (by have:=HNK.out;omega:nn+(s.layI k).length+1≤100000)) (by decide);have hform:=OwnP.form hown6
     have hbranch:=branch_any L ao nn cp _ s (.slice a1 n1 c1) a6 _ c6 (s.layI k) w6 hln6 hown6.progAt
      (fun e=>by
       rcases hform with⟨_,_,h⟩ | ⟨g',e1,_⟩
       ·exact h
       ·rw[e1]at e;cases e)
      (fun b off e=>by
       rcases hform with⟨e0,_⟩ | ⟨g',e1,hge,_⟩
       ·rw[e0]at e;cases e
       ·rw[e1]at e
        cases e;have:=HLN4.out.lt
        exact⟨by omega,fun h=>by have:=HFL.out _ h;omega⟩) hby
     unfold putV at hbranch;have HNEW:=hd' hnew;have HG6:=hd' hg6;clear hrow6 hln6 hg6 hlen6 hbl hnew hby hform hown6 hb6 hlaid hrr4 HLN4 HG4 HROW4 HFL
     go_wp2_with (first
      | refine wpList_load_mid (by rfl) 71 _ (by rfl) X 0 (by rfl) (sigC s (.slice a1 n1 c1)).toList _ hrr6 Tryz.underlying71 (by rfl) (by rw[infoN71];rfl) ?_
      | (go_at_call 26;refine hbranch.mono ?_;rintro e w7 ⟨a7,c7,rfl,hln7,hg7⟩;have HLN7:=hd' hln7;have HG7:=hd' (HG6.out.trans hg7);clear hln7 hg7))
     go_roundw
     case rel=>
      refine⟨k+1,_,c7,a7,by omega,by go_num,HNEW.out,HBR.out.trans HG7.out.bel,hd' ?_⟩;rw[HX.out];have:=HLN7.out;rw[List.append_assoc]at this;exact this
     case measure=>simp[intOf];omega
    ·obtain rfl:n=k:=by omega
     have hps:hd2++B.flatI B.packSig 0 (m.sigs.take n)=m.packI:=by
      rw[List.take_of_length_le (by rw[HN.out];exact lR' _)];unfold B.Msg.packI;rw[HPH.out]
     rw[hps]at HLR;have hcell:=HLR.out.cell;have HLEN:=hd' HLR.out.own.len
     have hown:OwnP wr w.heap.size ao nn cp m.packI:=by
      refine⟨HLR.out.own.len,HLR.out.own.own.1, ?_⟩;rcases HLR.out.own.own.2 with h0 | ⟨g',c',cur,h1,h2,h3⟩
      ·exact .inl h0
      ·exact .inr ⟨g',c',cur,h1,by have:=HLW.out;omega,h3⟩
     have HOWN:=hd' hown;have HBW:=hd' (HBW2.out.trans (HBR.out.mono (Nat.le_of_lt HLW.out)));clear hps hown HLR;go_wp2_with fail;go_ret2;refine⟨ao,cp,by rw[←HLEN.out];rfl, ?_,HBW.out⟩;rw[←HLEN.out];exact HOWN.out
end Code
end Go.Proofs.YtljhklblbafjkaaGreatDoor
namespace Go.Proofs.YtljhklblbafjkaaGreatDoor
open Go.RowKit
namespace Code
attribute [local go_sem ↓] Go.wp_at_zero Go.wp_at_succ
theorem unpackHead_of{m:B.Msg}:(0≤B.muxZ m.sigs→∃(i:Nat) (t:B.Sig),B.muxZ m.sigs=(i:Int)∧m.sigs[i]? =some t∧m.unpackHead=t.readI 0)∧(¬0≤B.muxZ m.sigs→m.unpackHead=[]):=by
 unfold B.Msg.unpackHead B.muxZ
 cases hm:B.muxI m.sigs with
 | none=>exact⟨fun h=>absurd h (by decide),fun _=>rfl⟩
 | some i=>
  obtain⟨t,ht,_⟩:=B.muxI_some hm;exact⟨fun _=>⟨i,t,rfl,ht,by simp only[ht]⟩,fun h=>absurd (show(0:Int)≤((i:Nat):Int) by omega) h⟩
theorem LnAt.keep{L n cap:Nat}{ao:Option Addr}{qs:List B.Ins}{w w':World}(h:LnAt w L ao n cap qs)(hL:w'.heap[L]? =w.heap[L]?)(hg:∀g,ao=some ⟨g,0,none⟩→w'.heap[g]? =w.heap[g]?)(hsz:w.heap.size≤w'.heap.size):LnAt w' L ao n cap qs:=by
 refine⟨by rw[←h.cell];simp[World.cell?,hL],by rw[←h.free];simp[World.frozen?,hL],⟨h.own.len,h.own.own.1, ?_⟩,Nat.lt_of_lt_of_le h.lt hsz⟩;rcases h.own.own.2 with h0 | ⟨g',c',cur,h1,h2,h3,h4⟩
 ·exact .inl h0
 ·refine .inr ⟨g',c',cur,h1,h2, ?_,h4⟩
  injection h1 with h1 _ _;exact(hg g' h1).trans h3
theorem readI_le{s:B.Sig}(hp:s.placeNo=0)(q:Int):(s.readI q).length≤258:=by
 have h1:=(B.Sig.place_ok hp).1;have:=B.readI_len s q (by omega);omega
set_option maxRecDepth 100000 in
set_option maxHeartbeats 6400000 in
theorem unpack_no(m:B.Msg)(sa:Option Addr)(n cap:Nat)(w:World)(hm:MsgWf m)(hs:SigsAt w sa n m.sigs)(hT:UTabs w)(h:m.no.1≠0):
    Calls Tryz.prog 6 #[.agg (msgC m (.slice sa n cap))] w (NoProg m w):=by
 have hrow:=RC.new (msgC m (.slice sa n cap)) 27 w (n:=8) rfl rfl;have hbel:Below w.heap.size w (w.alloc (.cells (msgC m (.slice sa n cap)) 27)):=(Below.refl _ _).alloc (lR' _) _;obtain⟨w1,hw1⟩:∃w1,w.alloc (.cells (msgC m (.slice sa n cap)) 27)=w1:=⟨_,rfl⟩;rw[hw1]at hrow hbel;have hrr:=RC.range hrow;have hmsg:=message_any apart_any m sa n cap w1 hm (hs.below hbel (lR' _)) (hT.below hbel (lR' _));unfold ErrOut at hmsg;unfold NoProg;obtain⟨x,hx⟩:∃x,errL m.no.1 m.no.2.1 m.no.2.2=x:=⟨_,rfl⟩
 have hxi:∃T v,x= .iface T v:=by rw[←hx];unfold errL;rw[if_neg h];exact⟨_,_,rfl⟩
 rw[hx]at hmsg⊢;obtain⟨T,v,rfl⟩:=hxi;have HB:=hd' hbel;clear hrow hbel hm hs hT h hx;go_enter Tryz.func6,Tryz.ntmps6
 go_upto_region 1 with fail
 try rw[hw1]
 clear hw1
 go_wp2_with (first
  | refine wpList_load_mid (by rfl) 27 _ (by rfl) w.heap.size 0 (by rfl) (msgC m (.slice sa n cap)).toList _ hrr Tryz.underlying27 (by rfl) (by kernel_rfl) ?_
  | (go_at_call 22;refine hmsg.mono ?_;rintro e w2 ⟨rfl,hb2⟩))
 go_ret2;exact⟨rfl,HB.out.trans (hb2.mono HB.out.size)⟩
set_option maxRecDepth 100000 in
set_option maxHeartbeats 25600000 in
theorem unpack_yes(m:B.Msg)(sa:Option Addr)(n cap:Nat)(w:World)(hm:MsgWf m)(hs:SigsAt w sa n m.sigs)(hT:UTabs w)(h:m.no.1=0):
    Calls Tryz.prog 6 #[.agg (msgC m (.slice sa n cap))] w (LayOut m.unpackI w):=by
 have hn:=hs.len;have hrow:=RC.new (msgC m (.slice sa n cap)) 27 w (n:=8) rfl rfl;have hbel:Below w.heap.size w (w.alloc (.cells (msgC m (.slice sa n cap)) 27)):=(Below.refl _ _).alloc (lR' _) _;obtain⟨w1,hw1⟩:∃w1,w.alloc (.cells (msgC m (.slice sa n cap)) 27)=w1:=⟨_,rfl⟩;rw[hw1]at hrow hbel;have hrr:=RC.range hrow;have hmsg:=message_any apart_any m sa n cap w1 hm (hs.below hbel (lR' _)) (hT.below hbel (lR' _));unfold ErrOut errL at hmsg;rw[if_pos h]at hmsg
 have hz1:w.heap.size<w1.heap.size:=by rw[←hw1];simp
 have hn64:n≤64:=by rw[hn];exact(head_len (B.Msg.no_zero h).1).1
 have HROW:=hd' hrow;have HB:=hd' hbel;have HZ:=hd' hz1;have HM:=hd' hm;have HS:=hd' hs;have HN:=hd' hn;have H0:=hd' h;clear hrow hbel hm hs hT h hn hz1;go_enter Tryz.func6,Tryz.ntmps6
 go_upto_region 1 with fail
 try rw[hw1]
 clear hw1
 go_upto_region 4 with(first
  | refine wpList_load_mid (by rfl) 27 _ (by rfl) w.heap.size 0 (by rfl) (msgC m (.slice sa n cap)).toList _ hrr Tryz.underlying27 (by rfl) (by kernel_rfl) ?_
  | (go_at_call 22;refine hmsg.mono ?_;rintro e w2 ⟨rfl,hb2⟩))
 have hrow2:=HROW.out.below hb2 HZ.out;have HBW2:=hd' (HB.out.trans (hb2.mono HB.out.size));have hlines:=lines_any w2;obtain⟨L,hL⟩:∃L,w2.heap.size=L:=⟨_,rfl⟩;unfold LinesOut putV at hlines;rw[hL]at hlines;have HLW:Hid (w.heap.size<L):=hd' (by rw[←hL];exact hrow2.blk);have HS2:Hid (SigsAt w2 sa n m.sigs):=hd' (HS.out.below HBW2.out (lR' _));have HL2:=hd' hL;have HROW2:=hd' hrow2;clear hrow2 hb2 hrr hmsg hL HROW HB HZ HS
 go_upto_region 5 with(go_at_call 23;refine hlines.mono ?_;rintro e w3 ⟨rfl,hln,hb3⟩)
 have hrow3:RC w3 w.heap.size 27 8 (msgC m (.slice sa n cap)):=HROW2.out.below hb3 HLW.out;have hrr:=RC.range hrow3;have hmux:=mux_any m sa n cap w3 (HS2.out.below hb3 (by rw[HL2.out];exact lR' _)) hn64;have HLN:=hd' hln;have HB3:=hd' hb3;clear hrow3 hln hb3 hlines
 go_upto_region 6 with(first
  | refine wpList_load_mid (by rfl) 27 _ (by rfl) w.heap.size 0 (by rfl) (msgC m (.slice sa n cap)).toList _ hrr Tryz.underlying27 (by rfl) (by kernel_rfl) ?_
  | (go_at_call 24;refine hmux.mono ?_;rintro e v4 ⟨rfl,hb4⟩))
 have HLN4:=hd' (HLN.out.below hb4);have HB4:=hd' (HB3.out.trans (hb4.mono (Nat.le_of_lt HLN.out.lt)));obtain⟨z,hz⟩:∃z,B.muxZ m.sigs=z:=⟨_,rfl⟩;have HMZ:=hd' hz;rw[hz];clear hz hb4 hrr hmux HLN HB3;rcases Classical.em (0≤z)with hz0 | hz0
 case' inl=>
  obtain⟨i,t,hzi,hti,huh⟩:=unpackHead_of.1 (by rw[HMZ.out];exact hz0)
  obtain rfl:(i:Int)=z:=by rw[←hzi];exact HMZ.out
  have e1:((0:Int)≤(i:Int))=True:=by simp
  have hil:i<n:=by rw[HN.out];exact(List.getElem?_eq_some_iff.1 hti).1
  obtain⟨b1,o1,hsa,hl1,a1,n1,c1,hrow,hto,hn1⟩:=HS2.out.at_ i t hti;have hrr:=cells_below hrow HB4.out (by rw[←HL2.out];exact hl1);have hrow4:RC v4 w.heap.size 27 8 (msgC m (.slice sa n cap)):=HROW2.out.below HB4.out HLW.out
  have k7:v4.cell? ⟨w.heap.size,7,none⟩=some (.slice (some ⟨b1,o1,none⟩) n cap):=by rw[←hsa];exact hrow4.cell (j:=7) rfl
  have hpl:=fine_sig H0.out hti;have hread:=read_any 0 t (.slice a1 n1 c1) v4 (HM.out.sigs t (List.mem_of_getElem? hti)) hpl;have HLE:=hd' (readI_le hpl 0);have HUH:=hd' huh
  have q0:(0:Int)≤(i:Int):=by omega
  have q1:(i:Int)<n:=by omega
  clear hzi hti huh hz0 hil hsa hl1 hrow hto hn1 hrow4 hpl
  go_upto_region 10 with(first
   | refine wpList_load_mid (by rfl) 71 _ (by rfl) b1 (o1+i*19) (by rfl) (sigC t (.slice a1 n1 c1)).toList _ hrr Tryz.underlying71 (by rfl) (by rw[infoN71];rfl) ?_
   | (go_at_call 25;refine hread.mono ?_;rintro e v6 ⟨a6,c6,rfl,hown6,hb6⟩))
  have hform:=OwnP.form hown6;have hb0:(0+(t.readI 0).length)*40≤140737488355328:=Nat.le_trans (Nat.mul_le_mul_right 40 (by have:=HLE.out;omega:0+(t.readI 0).length≤1000)) (by decide)
  have hput:=put_any L none 0 0 [] a6 _ c6 (t.readI 0) v6 (HLN4.out.below hb6) hown6.progAt
   (fun e=>by
    rcases hform with⟨_,_,h⟩ | ⟨g',e1,_⟩
    ·exact h
    ·rw[e1]at e;cases e) hb0
  have HB6:=hd' (HB4.out.trans (hb6.mono (Nat.le_of_lt HLN4.out.lt)));clear hform hb0 hown6 hb6 hrr hread k7 HLN4 HB4;go_wp2_with fail;refine hput.mono ?_;intro e v5 hh;obtain⟨ao5,cap5,rfl,hln5,hg5⟩:=hh.grew;have HB5:Hid (Below L w2 v5):=hd' (HB6.out.trans hg5.bel);obtain⟨n5,hn5⟩:∃n5,n5=0+(t.readI 0).length:=⟨_,rfl⟩;rw[←hn5]at hln5
  have hn53:n5≤300:=by have:=HLE.out;omega
  obtain⟨hd2,hhd⟩:∃hd2,[]++t.readI 0=hd2:=⟨_,rfl⟩;rw[hhd]at hln5;have HPH:Hid (m.unpackHead=hd2):=hd' (by rw[HUH.out,←hhd];rfl);have HLN5:=hd' hln5;clear hput hh hln5 hg5 hn5 hhd HUH HLE HB6 e1 q0 q1
  go_upto_region 11 with fail
 case' inr=>
  have e1:(0≤z)=False:=by simp;omega
  have HD:=hd' (unpackHead_of.2 (by rw[HMZ.out];exact hz0));clear hz0;obtain⟨v5,hv5⟩:∃v,v=v4:=⟨_,rfl⟩;subst hv5;obtain⟨ao5,hao⟩:∃a:Option Addr,a=none:=⟨_,rfl⟩;obtain⟨n5,hn5⟩:∃n5:Nat,n5=0:=⟨_,rfl⟩;obtain⟨cap5,hc5⟩:∃n5:Nat,n5=0:=⟨_,rfl⟩;obtain⟨hd2,hhd⟩:∃hd2:List B.Ins,[]=hd2:=⟨_,rfl⟩
  have hln5:LnAt v5 L ao5 n5 cap5 hd2:=by rw[hao,hn5,hc5,←hhd];exact HLN4.out
  have HB5:=HB4
  have hn53:n5≤300:=by omega
  have HPH:Hid (m.unpackHead=hd2):=hd' (by rw[HD.out,hhd]);have HLN5:=hd' hln5;clear hln5 HD hao hn5 hc5 hhd HLN4 HB4
  go_upto_region 11 with fail
  clear e1
 all_goals
  have hrow5:RC v5 w.heap.size 27 8 (msgC m (.slice sa n cap)):=HROW2.out.below HB5.out HLW.out;have k7:v5.cell? ⟨w.heap.size,7,none⟩=some (.slice sa n cap):=hrow5.cell (j:=7) rfl;clear hrow5;go_wp2_with fail;clear k7
  go_loopw [45] (fun x wr=>∃k nn cp ao,k≤n∧x= .int .i64 (k:Nat)∧nn≤300+300*k∧Below L w2 wr∧Hid (LnAt wr L ao nn cp (hd2++B.flatI B.unpackSig 0 (m.sigs.take k)))) (fun x _=>n-(intOf x).toNat)
  case atStart=>exact⟨0,n5,cap5,ao5,by omega,rfl,by omega,HB5.out,hd' (by rw[List.take_zero];show LnAt v5 L ao5 n5 cap5 (hd2++[]);rw[List.append_nil];exact HLN5.out)⟩
  case round=>
   obtain⟨k,nn,cp,ao,hk,rfl,hnn,hbr,HLR⟩:=hrel;have HBR:=hd' hbr;have HNK:=hd' hnn;clear HLN5 HB5 hbr hnn hn53
   by_cases hlt:k<n
   ·have hx:m.sigs[k]? =some (m.sigs[k]'(by have:=HN.out;omega)):=List.getElem?_eq_getElem _
    generalize m.sigs[k]'(by have:=HN.out;omega)=s at hx;obtain⟨b1,o1,rfl,hl1,a1,n1,c1,hrow,hto,hn1⟩:=HS2.out.at_ k s hx;have hrr:=cells_below hrow HBR.out (by rw[←HL2.out];exact hl1);have HSW:=hd' (HM.out.sigs s (List.mem_of_getElem? hx));have HPL:=hd' (fine_sig H0.out hx);have HX:=hd' (flatI_more B.unpackSig m.sigs k s hx)
    have q0:(0:Int)≤(k:Int):=by omega
    have q1:(k:Int)<n:=by omega
    clear hx hrow hto hl1 hn1
    go_upto_region 14 with(first
     | refine wpList_load_mid (by rfl) 71 _ (by rfl) b1 (o1+k*19) (by rfl) (sigC s (.slice a1 n1 c1)).toList _ hrr Tryz.underlying71 (by rfl) (by rw[infoN71];rfl) ?_
     | (refine wpList_store_mid (by rfl) 71 _ _ (by rfl) wr.heap.size 0 (sigC s (.slice a1 n1 c1)) (by rfl) (by rfl) (there_alloc _ _ _ (by rfl)) (by rw[infoN71];rfl) (ones_sig _ _ _ _) ?_;generalize hw4:World.setCells _ _ _ _=w4))
    obtain⟨X,hX⟩:∃X,wr.heap.size=X:=⟨_,rfl⟩
    have hb4:Below wr.heap.size wr w4:=by
     rw[←hw4];exact((Below.refl _ _).alloc (lR' _) _).grown (grownBy_setCells _ _ _ _) (by simp) (fun k hk=>by cases hk;exact lR' _)
    have hrow4:RC w4 X 71 19 (sigC s (.slice a1 n1 c1)):=by rw[←hw4,←hX];exact RC.over _ _ _ _ (by rfl) rfl
    have HLN4:=hd' (HLR.out.below hb4);have hgr4:Grew L ao ao wr w4:=Grew.of_below hb4 (Nat.le_of_lt HLR.out.lt);have HG4:=hd' hgr4;have hlaid:=read_any 1 s (.slice a1 n1 c1) w4 HSW.out HPL.out;have hrr4:=RC.range hrow4;have HROW4:=hd' hrow4
    have hfl:∀g,ao=some ⟨g,0,none⟩→g<w4.heap.size:=fun g e=>by
     rcases OwnP.form HLN4.out.own with⟨e0,_⟩ | ⟨g',e1,_,h⟩
     ·rw[e0]at e;cases e
     ·rw[e1]at e;cases e;exact h
    have HFL:=hd' hfl
    have hfx:∀g,ao=some ⟨g,0,none⟩→g<X:=fun g e=>by
     rcases OwnP.form HLR.out.own with⟨e0,_⟩ | ⟨g',e1,_,h⟩
     ·rw[e0]at e;cases e
     ·rw[e1]at e;cases e;rw[←hX];exact h
    have hxl:X≠L:=by have:=HLR.out.lt;omega
    have HFX:=hd' hfx;have HXL:=hd' hxl;have HWX:=hd' hX;rw[hX];clear hfx hxl;clear hw4 hb4 hrow4 hgr4 hrr hX hfl HLR
    go_upto_region 17 with(first
     | refine wpList_load_mid (by rfl) 71 _ (by rfl) X 0 (by rfl) (sigC s (.slice a1 n1 c1)).toList _ hrr4 Tryz.underlying71 (by rfl) (by rw[infoN71];rfl) ?_
     | (go_at_call 25;refine hlaid.mono ?_;rintro e w6 ⟨a6,c6,rfl,hown6,hb6⟩))
    have hrow6:=HROW4.out.below hb6 HROW4.out.blk;have hln6:=HLN4.out.below hb6;have hg6:=HG4.out.trans (Grew.of_below hb6 (Nat.le_of_lt HLN4.out.lt));obtain⟨R,hR⟩:∃R,s.readI 1=R:=⟨_,rfl⟩
    have hlen6:R.length≤258:=by rw[←hR];exact readI_le HPL.out 1
    obtain⟨base,hbase⟩:∃base,w4.heap.size=base:=⟨_,rfl⟩;rw[hbase,hR]at hown6;rw[hbase]at hb6;rw[hR]
    have hbn:base≤w6.heap.size:=by rw[←hbase];exact hb6.size
    have hxb:X<base:=by rw[←hbase];exact HROW4.out.blk
    have hlb:L<base:=by rw[←hbase];exact HLN4.out.lt
    have hfb:∀g,ao=some ⟨g,0,none⟩→g<base:=fun g e=>by rw[←hbase];exact HFL.out g e
    have HROW6:=hd' hrow6;have HLN6:=hd' hln6;have HG6:=hd' hg6;have HOWN6:=hd' hown6;have HB6:=hd' hb6;have HXB:=hd' hxb;have HBN:=hd' hbn;have HLB:=hd' hlb;have HFB:=hd' hfb;have HR6:=hd' hR;have HRL:=hd' hlen6;clear hrow6 hln6 hg6 hown6 hb6 hbn hxb hlb hfb hR hlen6 hbase hlaid hrr4 HLN4 HG4 HROW4 HFL;refine wp_region_held_drew (S:=fun w'=>(∀b,b<L→w'.heap[b]? =w6.heap[b]?)∧w'.heap[X]? =w6.heap[X]?) (by kernel_rfl) ⟨fun b _=>rfl,rfl⟩ (fun hS1=> ?_);refine takeS (i:=0) (d:=58) (v:=.func (.func 54) #[] #[.pointer (some ⟨L,0,none⟩)]) rfl rfl rfl (by kernel_rfl) (by kernel_rfl) (by kernel_rfl) (fun _ _ _ h=>h) (fun w' h=>by go_simp) hS1 ?_;simp only[Act.put,sA',sZ',sS']
    refine takeM (i:=1) (d:=59) 71 _ X 0 (sigC s (.slice a1 n1 c1)) _ rfl rfl rfl rfl (by rfl) Tryz.underlying71 rfl (by rw[infoN71];rfl) (by kernel_rfl) (by kernel_rfl) (by kernel_rfl) (fun _ _ _ h=>h) (fun w' h=>RC.range (RC.of HROW6.out h.2)) hS1 ?_;simp only[Act.put,sA',sZ',sS'];refine takeS (i:=2) (d:=60) (v:=.slice a6 R.length c6) rfl rfl rfl (by kernel_rfl) (by kernel_rfl) (by kernel_rfl) (fun _ _ _ h=>h) (fun w' h=>by go_simp) hS1 ?_;simp only[Act.put,sA',sZ',sS'];refine takeS (i:=3) (d:=61) (v:=.int .i64 (k:Int)) rfl rfl rfl (by kernel_rfl) (by kernel_rfl) (by kernel_rfl) (fun _ _ _ h=>h) (fun w' h=>by go_simp) hS1 ?_;simp only[Act.put,sA',sZ',sS']
    refine takeS (i:=4) (d:=62) (v:=.agg #[.int .i64 16,.int .i64 1,.int .i64 (k:Int),.int .i64 0,.int .u64 0]) rfl rfl rfl (by kernel_rfl) (by kernel_rfl) (by kernel_rfl) (fun _ _ _ h=>h) (fun w' h=>by go_simp) hS1 ?_;simp only[Act.put,sA',sZ',sS'];refine wpAnyH_ready (rs:=[5]) (by kernel_rfl) (by simp) ?_;refine AllReadyH.cons rfl (fun K hK=> ?_) AllReadyH.nil;go_simp;have hbe:Below w6.heap.size w6 (w6.drew.alloc (.cells #[.int .i64 16,.int .i64 1,.int .i64 (k:Int),.int .i64 0,.int .u64 0] 74)):=(Below.refl _ _).drew.alloc (lR' _) _;have hl6:=HLN6.out.lt;have hx6:=HROW6.out.blk;refine hK.out _ _ ⟨fun b hb=>hbe.block b (by omega),hbe.block X hx6⟩ (fun hS2=> ?_);clear hK K;have hown7:=HOWN6.out.kept hbe;have hnew7:=heap_alloc_new w6.drew (.cells #[.int .i64 16,.int .i64 1,.int .i64 (k:Int),.int .i64 0,.int .u64 0] 74);have hlen7:=HRL.out
    refine wpAnyH_ready (rs:=[6]) (by kernel_rfl) (by simp) ?_;refine AllReadyH.cons rfl (fun K hK=> ?_) AllReadyH.nil;refine step_app Tryz.underlying30 info74 rfl (by decide) rfl _ _ (by rfl) base (by rfl) hown7.own (by rfl) hnew7 rfl rfl (cellsI_one ⟨16,1,(k:Int),0,0⟩) (by omega) (by omega) (Nat.le_trans HBN.out hbe.size) ?_;intro a9 c9 w9 hown9 hg9 hb9 hs9
    have hkeep:∀b,b<base→w9.heap[b]? =w6.heap[b]? :=fun b hb=>(hb9.block b hb).trans (hbe.block b (Nat.lt_of_lt_of_le hb HBN.out))
    refine hK.out _ _ ⟨fun b hb=>hkeep b (Nat.lt_trans hb HLB.out),hkeep X HXB.out⟩ (fun hS3=> ?_);clear hK K;have hsz9:w6.heap.size≤w9.heap.size:=Nat.le_trans hbe.size hs9;have hbel9:Below L w6 w9:=(hbe.mono (Nat.le_of_lt HLN6.out.lt)).trans (hb9.mono (Nat.le_of_lt HLB.out));have hln9:=HLN6.out.keep (hkeep L HLB.out) (fun g e=>hkeep g (HFB.out g e)) hsz9;have hgr9:Grew L ao ao wr w9:=⟨fun b hb h1 h2=>(hkeep b (by have:=HWX.out;have:=HXB.out;omega)).trans (HG6.out.keep b hb h1 h2),.inl rfl,HG6.out.bel.trans hbel9⟩;have hown10:OwnP w9 base a9 (R.length+1) c9 (R++[⟨16,1,(k:Int),0,0⟩]):=⟨by simp,by rw[cellsP_append];exact hown9⟩
    have hx9:X<w9.heap.size:=by have:=HXB.out;have:=HBN.out;omega
    obtain⟨RR,hRR⟩:∃RR,R++[⟨16,1,(k:Int),0,0⟩]=RR:=⟨_,rfl⟩
    have hRL:RR.length=R.length+1:=by rw[←hRR];simp
    rw[hRR]at hown10
    have hu:B.unpackSig k s=s.branchI RR:=by rw[←hRR,←HR6.out];rfl
    have hbl:(s.branchI RR).length≤RR.length+1:=B.branch_len
    have hnew:nn+(s.branchI RR).length≤300+300*(k+1):=by have:=HNK.out;omega
    have hby:(nn+(R.length+1)+1)*40≤140737488355328:=Nat.le_trans (Nat.mul_le_mul_right 40 (by have:=HNK.out;omega:nn+(R.length+1)+1≤100000)) (by decide);have hform:=OwnP.form hown10
    have hbranch:=branch_any L ao nn cp _ s (.slice a1 n1 c1) a9 _ c9 RR w9 hln9 hown10.progAt
     (fun e=>by
      rcases hform with⟨_,_,h⟩ | ⟨g',e1,_⟩
      ·exact h
      ·rw[e1]at e;cases e)
     (fun b off e=>by
      rcases hform with⟨e0,_⟩ | ⟨g',e1,hge,_⟩
      ·rw[e0]at e;cases e
      ·rw[e1]at e
       cases e;have:=HLB.out
       exact⟨by omega,fun h=>by have:=HFB.out _ h;omega⟩) hby
    unfold putV at hbranch;have HNEW:=hd' hnew;have HU:=hd' hu;have HGR9:=hd' hgr9;have HKEEP:=hd' hkeep;have HX9:=hd' hx9;clear hS1 hS2 hS3 hbe hown7 hnew7 hown9 hg9 hb9 hs9 hkeep hsz9 hbel9 hln9 hgr9 hown10 hx9 hRL hRR hu hbl hnew hby hform;refine wpAnyH_ready (rs:=[7]) (by kernel_rfl) (by simp) ?_;refine AllReadyH.cons rfl (fun K hK=> ?_) AllReadyH.nil;go_simp;refine hbranch.mono ?_;rintro e w7 ⟨a7,c7,rfl,hln7,hg7⟩;refine hK.out _ _ ⟨fun b hb=>(hg7.bel.block b hb).trans (HKEEP.out b (Nat.lt_trans hb HLB.out)),(hg7.keep X HX9.out HXL.out (fun e=>by have:=HFX.out X e;omega)).trans (HKEEP.out X HXB.out)⟩ (fun hS4=> ?_);clear hK K;have HLN7:=hd' hln7;have HG7:=hd' (HGR9.out.trans hg7);clear hln7 hg7 hbranch hS4;refine wpAnyH_done (by kernel_rfl) ?_ _;go_wp2_with fail;go_roundw
    case rel=>
     refine⟨k+1,_,c7,a7,by omega,by go_num,HNEW.out,HBR.out.trans HG7.out.bel,hd' ?_⟩;rw[HX.out,HU.out];have:=HLN7.out;rw[List.append_assoc]at this;exact this
    case measure=>simp[intOf];omega
   ·obtain rfl:n=k:=by omega
    have hps:hd2++B.flatI B.unpackSig 0 (m.sigs.take n)=m.unpackI:=by
     rw[List.take_of_length_le (by rw[HN.out];exact lR' _)];unfold B.Msg.unpackI;rw[HPH.out]
    rw[hps]at HLR;have hcell:=HLR.out.cell;have HLEN:=hd' HLR.out.own.len
    have hown:OwnP wr w.heap.size ao nn cp m.unpackI:=by
     refine⟨HLR.out.own.len,HLR.out.own.own.1, ?_⟩;rcases HLR.out.own.own.2 with h0 | ⟨g',c',cur,h1,h2,h3⟩
     ·exact .inl h0
     ·exact .inr ⟨g',c',cur,h1,by have:=HLW.out;omega,h3⟩
    have HOWN:=hd' hown;have HBW:=hd' (HBW2.out.trans (HBR.out.mono (Nat.le_of_lt HLW.out)));clear hps hown HLR;go_wp2_with fail;go_ret2;refine⟨ao,cp,by rw[←HLEN.out];rfl, ?_,HBW.out⟩;rw[←HLEN.out];exact HOWN.out
end Code
end Go.Proofs.YtljhklblbafjkaaGreatDoor
