/- The document's answer for layer 9: what is wrong with a message, and where. -/
import Derived.Test.YtljhklblbafjkaaGreatDoorNcZ
import Derived.Test.YtljhklblbafjkaaGreatDoorLwU
import Derived.Test.YtljhklblbafjkaaGreatDoorLwQ
open Go.Lib renaming hid→hd'
open Nat renaming le_refl→lR'
open List renaming setIfInBounds_toArray→sA',set_cons_zero→sZ',set_cons_succ→sS'
namespace Go.Proofs.YtljhklblbafjkaaGreatDoor
open Go.RowKit
namespace Code
attribute [local go_sem ↓] Go.wp_at_zero Go.wp_at_succ
theorem takeMW{ops:Array Oper}{Q:Exit→Act→World→Prop}{S:World→Prop}{i d fuel:Nat}{listed:Array Bool}{oi:Oper}{a:Act}{w:World}(ty:TypeId)(x:Operand)(b o:Nat)(C:Array Value)(td:TypeDesc)(q:ops[i]? =some oi)(hd:oi.dst=some d)(hg:Region.wanted oi (yielded ops a.tmps)=true)(ho:oi.op= .load ty x)
    (hx:a.eval x= .pointer (some ⟨b,o,none⟩)) (hu:Tryz.prog.underlying ty=some td) (hrow:td.isRow=true) (hi:(Tryz.prog.info? ty).map (·.size)=some C.toList.length)
    (hs:Region.noSelect ops=true) (hf:Region.free .any ops listed i=true) (hr:(Region.ready .any ops listed).contains i=true) (hQ:∀c a w,Q (.panic c) (a.put (some d) (.agg C)) w→Q (.panic c) a w)
    (hy:∀w',S w'→w'.rangeAt b o C.toList) (hS:S w) (h:wpAnyH Tryz.prog .any ops Q S fuel (listed.setIfInBounds i true) (a.put (some d) (.agg C)) w):wpAnyH Tryz.prog .any ops Q S (fuel+1) listed a w:=by
 have hy2:=yieldsIf_load_mid (P:=Tryz.prog) (ops:=ops) (S:=S) (op:=oi) (a:=a) hg ty x ho b o hx C.toList td hy hu hrow hi;refine wpAnyH_take q hs hf hr (fun c a w h=>hQ c a w (by rw[hd]at h;exact h)) hy2 hS ?_;rw[hd];exact h
theorem faultC_size(no l c:Int):(faultC no l c).size=3:=by unfold faultC;split<;>rfl
theorem faultC_ones(no l c:Int):(faultC no l c).all (·.oneCell')=true:=by unfold faultC;split<;>simp[Value.oneCell']
def FaultOut(m:B.Msg)(w:World)(e:Ending)(w':World):Prop:=e= .returned (.agg (faultC m.no.1 m.no.2.1 m.no.2.2))∧Below w.heap.size w w'
def TwoAt(L:List B.Sig)(A:Int)(nm:ByteArray)(i q:Nat)(no:Int):Prop:=
 (no=A∧(A=0→∀j t,j<q→L[j]? =some t→t.name≠nm))∨(A=0∧no=12∧hasW ((L.take i).map (·.name)) nm=true)
theorem hasW_no{L:List B.Sig}{nm:ByteArray}{i:Nat}(h:∀j t,j<i→L[j]? =some t→t.name≠nm):hasW ((L.take i).map (·.name)) nm=false:=by
 rw[hasW_name,List.any_eq_false];intro t ht;obtain⟨q,hq⟩:=List.getElem?_of_mem ht;rw[List.getElem?_take]at hq;split at hq
 ·simpa using h q t (by assumption) hq
 ·cases hq
theorem TwoAt.no{L:List B.Sig}{A:Int}{nm:ByteArray}{i q:Nat}{no:Int}(h:TwoAt L A nm i q no)(hx:no≠0∨i≤q):(if A≠0 then A else if hasW ((L.take i).map (·.name)) nm=true then 12 else 0)=no:=by
 rcases h with⟨h1,h2⟩ | ⟨h1,h2,h3⟩
 ·by_cases h0:A=0
  ·rw[if_neg (by simp[h0])]
   rcases hx with hx | hx
   ·exact absurd (h1.trans h0) hx
   ·rw[if_neg (by rw[hasW_no (fun j t hj ht=>h2 h0 j t (by omega) ht)];simp)]
    rw[h1,h0]
  ·rw[if_pos h0,h1]
 ·rw[if_neg (by simp[h1]),if_pos h3,h2]
theorem sigNo_two{m:B.Msg}{k:Nat}{s:B.Sig}{no:Int}(hs:m.sigs[k]? =some s)(h:(if s.aloneNo m.size≠0 then s.aloneNo m.size else if hasW ((m.sigs.take k).map (·.name)) s.name=true then 12 else 0)=no):
    m.sigNo k=if no≠0 then no else if s.role=1∧0≤B.muxZ (m.sigs.take k)then 14 else 0:=by
 rw[sigNo_of hs]
 by_cases h1:s.aloneNo m.size=0
 ·rw[if_neg (by simp[h1])]at h⊢
  by_cases h2:hasW ((m.sigs.take k).map (·.name)) s.name=true
  ·rw[if_pos h2]at h⊢
   rw[←h,if_pos (by decide)]
  ·rw[if_neg h2]at h⊢
   subst h;rw[if_neg (show¬(0:Int)≠0 by simp)]
 ·rw[if_pos h1]at h⊢
  rw[←h,if_pos h1]
theorem alone_place{s:B.Sig}{size:Int}(h:s.aloneNo size=0):s.placeNo=0:=by
 have h1:=(B.Sig.alone_where h).1;unfold B.Sig.whereNo at h1
 by_cases h2:s.placeNo=0
 ·exact h2
 ·rw[if_pos h2]at h1
  exact absurd h1 h2
theorem sigNo_alone{m:B.Msg}{k:Nat}{s:B.Sig}(hs:m.sigs[k]? =some s)(h:m.sigNo k=0):s.aloneNo m.size=0:=by
 rw[sigNo_of hs]at h
 by_cases h1:s.aloneNo m.size=0
 ·exact h1
 ·rw[if_pos h1]at h
  exact absurd h h1
theorem brNo_plain{m:B.Msg}{k:Nat}{s:B.Sig}(hs:m.sigs[k]? =some s)(h:s.role≠2):m.brNo k=0:=by
 unfold B.Msg.brNo;rw[hs];exact if_neg h
theorem brNo_none{m:B.Msg}{k:Nat}{s:B.Sig}(hs:m.sigs[k]? =some s)(h:s.role=2)(hm:B.muxI m.sigs=none):m.brNo k=14:=by
 unfold B.Msg.brNo;rw[hs,hm];exact if_pos h
theorem brNo_some{m:B.Msg}{k q:Nat}{s z:B.Sig}(hs:m.sigs[k]? =some s)(h:s.role=2)(hm:B.muxI m.sigs=some q)(hz:m.sigs[q]? =some z):m.brNo k=if B.fits s.branch.toNat z.size.toNat z.signed=true then 0 else 14:=by
 unfold B.Msg.brNo;rw[hs,hm];simp only[hz];exact if_pos h
theorem meetNo_at{m:B.Msg}{k:Nat}{s:B.Sig}(hs:m.sigs[k]? =some s):m.meetNo k=if(m.sigs.take k).any (fun t=>B.meets t s)=true then 17 else 0:=by
 unfold B.Msg.meetNo;rw[hs]
set_option maxRecDepth 100000 in
set_option maxHeartbeats 12800000 in
theorem rmessage_any(m:B.Msg)(sa:Option Addr)(n cap:Nat)(w:World)(hm:MsgWf m)(hs:SigsAt w sa n m.sigs):
    Calls Tryz.prog 7 #[.agg (msgC m (.slice sa n cap))] w (FaultOut m w):=by
 unfold FaultOut;have hn:=hs.len;have hrow:=RC.new (msgC m (.slice sa n cap)) 27 w (n:=8) rfl rfl;have hbel:Below w.heap.size w (w.alloc (.cells (msgC m (.slice sa n cap)) 27)):=(Below.refl _ _).alloc (lR' _) _;obtain⟨w1,hw1⟩:∃w1,w.alloc (.cells (msgC m (.slice sa n cap)) 27)=w1:=⟨_,rfl⟩;rw[hw1]at hrow hbel;have hres:=RC.new #[.int .i64 0,.int .i64 0,.int .i64 0] 36 w1 (n:=3) rfl rfl;have hb12:Below w1.heap.size w1 (w1.alloc (.cells #[.int .i64 0,.int .i64 0,.int .i64 0] 36)):=(Below.refl _ _).alloc (lR' _) _;obtain⟨w2,hw2⟩:∃w2,w1.alloc (.cells #[.int .i64 0,.int .i64 0,.int .i64 0] 36)=w2:=⟨_,rfl⟩;rw[hw2]at hres hb12;have HBOX:=hd' (hrow.low hb12 hrow.blk);have HBXB:Hid (w.heap.size<w2.heap.size):=hd' (Nat.lt_of_lt_of_le hrow.blk hb12.size);have HRES:=hd' hres
 have HB:=hd' (hbel.trans (hb12.mono hbel.size));have HZ:Hid (w.heap.size≤w1.heap.size):=hd' hbel.size;have hrr:=RC.range HBOX.out;have hhead:=rhead_any m sa n cap hm hn w2;have HM:=hd' hm;have HS:=hd' hs;have HN:=hd' hn;clear hrow hbel hres hb12 hm hs hn;go_enter Tryz.func7,Tryz.ntmps7
 go_upto_region 1 with fail
 try rw[hw1]
 try rw[hw2]
 clear hw1 hw2
 by_cases hh:m.headNo=0
 case' neg=>
  obtain⟨no,hno⟩:∃no,m.headNo=no:=⟨_,rfl⟩;have HNO:=hd' (B.no_head hh);rw[hno]at HNO hh hhead
  have e1:(no !=0)=true:=by simp[hh]
  clear hh hno
  go_upto_region 2 with(first
   | refine wpList_load_mid (by rfl) 27 _ (by rfl) w.heap.size 0 (by rfl) (msgC m (.slice sa n cap)).toList _ hrr Tryz.underlying27 (by rfl) (by kernel_rfl) ?_
   | (go_at_call 27;refine hhead.mono ?_;rintro e w3 ⟨rfl,hb3⟩))
  have k0:w3.cell? ⟨w.heap.size,0,none⟩=some (.int .i64 m.line):=(HBOX.out.low hb3 HBXB.out).cell (j:=0) rfl;have k1:w3.cell? ⟨w.heap.size,1,none⟩=some (.int .i64 m.col):=(HBOX.out.low hb3 HBXB.out).cell (j:=1) rfl;clear hrr hhead;go_wp2_with fail;refine(rat_any no m.line m.col _).mono ?_;rintro e wz ⟨rfl,hbz⟩;have hTz:Below w2.heap.size w2 wz:=hb3.trans (hbz.mono hb3.size);have hres:=HRES.out.low hTz HRES.out.blk;have hth:=hres.there;clear hbz;go_wp2_with (refine wpList_store_mid rfl 36 (.tmp 2) (.tmp 18) rfl w1.heap.size 0 (faultC no m.line m.col) rfl rfl (by rw[faultC_size];exact hth) (by rw[infoFa,faultC_size]) (faultC_ones _ _ _) ?_;generalize hwq:World.setCells _ _ _ _=wq)
  have hrx:RC wq w1.heap.size 36 3 (faultC no m.line m.col):=by
   rw[←hwq];exact hres.store _ (faultC_size _ _ _)
  have HBX:Hid (Below w.heap.size w wq):=hd' (by
   rw[←hwq]
   exact below_put (HB.out.trans (hTz.mono HB.out.size)) (grownBy_setCells _ _ _ _) HZ.out (Nat.le_trans HB.out.size hTz.size))
  clear hwq;exact bodyPost_ret (v:=.agg (faultC no m.line m.col)) (retFault (p:=2) (by kernel_rfl) rfl hrx) rfl ⟨by rw[HNO.out],HBX.out⟩
 rw[hh]at hhead;have HH:=hd' hh;have hlen:=head_len hh
 have hn64:n≤64:=by rw[HN.out];exact hlen.1
 clear hh hlen
 go_upto_region 4 with(first
  | refine wpList_load_mid (by rfl) 27 _ (by rfl) w.heap.size 0 (by rfl) (msgC m (.slice sa n cap)).toList _ hrr Tryz.underlying27 (by rfl) (by kernel_rfl) ?_
  | (go_at_call 27;refine hhead.mono ?_;rintro e w3 ⟨rfl,hb3⟩))
 have k7:w3.cell? ⟨w.heap.size,7,none⟩=some (.slice sa n cap):=(HBOX.out.low hb3 HBXB.out).cell (j:=7) rfl;have HT3:=hd' hb3;clear hrr hhead hb3;go_wp2_with fail;clear k7
 go_loopw [5] (fun i wr=>∃k:Nat,k≤n∧i= .int .i64 (k:Int)∧Hid (Below w2.heap.size w2 wr∧∀j,j<k→m.sigNo j=0)) (fun i _=>n-(intOf i).toNat)
 case atStart=>exact⟨0,by omega,rfl,hd' ⟨HT3.out,fun j h=>by omega⟩⟩
 case round=>
  obtain⟨i,hi,rfl,HI⟩:=hrel;clear HT3
  by_cases hlt:i<n
  ·have hx:m.sigs[i]? =some (m.sigs[i]'(by have:=HN.out;omega)):=List.getElem?_eq_getElem _
   generalize m.sigs[i]'(by have:=HN.out;omega)=s at hx;obtain⟨b1,o1,a1,k1,c1,rfl,hl1,hrow,hto,hk1⟩:=HS.out.get hx;have HBW0:Hid (Below w.heap.size w wr):=hd' (HB.out.trans (HI.out.1.mono HB.out.size));have hrr:=cells_below hrow HBW0.out hl1;have hlr:b1<wr.heap.size:=Nat.lt_of_lt_of_le hl1 HBW0.out.size;have HSW:=hd' (HM.out.sigs s (List.mem_of_getElem? hx));have HX:=hd' hx;have HROW:=hd' hrow;have HBOXR:=hd' (HBOX.out.low HI.out.1 HBXB.out);obtain⟨na,hna⟩:∃na,s.aloneNo m.size=na:=⟨_,rfl⟩;have HA0:=hd' hna
   have HAL:Hid (∀wy,Below wr.heap.size wr wy→Calls Tryz.prog 29 #[.agg (sigC s (.slice a1 k1 c1)),.int .i64 m.size] wy (NumOut na wy)):=hd' (fun wy h=>by
    rw[←HA0.out]
    exact ralone_any s a1 k1 c1 m.size HSW.out wy (hto.below (HBW0.out.trans (h.mono HBW0.out.size)) (lR' _)) hk1)
   have e1:((i:Int)<(n:Int))=True:=by simp;omega
   have q0:(0:Int)≤(i:Int):=by omega
   have q1:(i:Int)<n:=by omega
   clear hx hrow hto hna
   go_upto_region 8 with fail
   refine wp_region_held_drew (S:=Below wr.heap.size wr) (by kernel_rfl) (Below.refl _ _).drew (fun hS1=> ?_);refine takeS (i:=0) (d:=27) (v:=.slice (some ⟨b1,o1,none⟩) n cap) rfl rfl rfl (by kernel_rfl) (by kernel_rfl) (by kernel_rfl) (fun _ _ _ h=>h) (fun w' h=>by go_simp) hS1 ?_
   try simp only[Act.put,sA',sZ',sS']
   refine takeS (i:=1) (d:=28) (v:=.int .i64 (i:Int)) rfl rfl rfl (by kernel_rfl) (by kernel_rfl) (by kernel_rfl) (fun _ _ _ h=>h) (fun w' h=>by go_simp) hS1 ?_
   try simp only[Act.put,sA',sZ',sS']
   refine takeS (i:=2) (d:=29) (v:=.pointer (some ⟨b1,o1+i*19,none⟩)) rfl rfl rfl (by kernel_rfl) (by kernel_rfl) (by kernel_rfl) (fun _ _ _ h=>h) (fun w' h=>by go_simp) hS1 ?_
   try simp only[Act.put,sA',sZ',sS']
   refine takeM (i:=3) (d:=30) 71 (.tmp 29) b1 (o1+i*19) (sigC s (.slice a1 k1 c1)) _ rfl rfl rfl rfl (by rfl) Tryz.underlying71 rfl (by rw[infoN71];rfl) (by kernel_rfl) (by kernel_rfl) (by kernel_rfl) (fun _ _ _ h=>h) (fun w' h=>cells_below hrr h hlr) hS1 ?_
   try simp only[Act.put,sA',sZ',sS']
   refine takeS (i:=4) (d:=31) (v:=.pointer (some ⟨w.heap.size,5,none⟩)) rfl rfl rfl (by kernel_rfl) (by kernel_rfl) (by kernel_rfl) (fun _ _ _ h=>h) (fun w' h=>by go_simp) hS1 ?_
   try simp only[Act.put,sA',sZ',sS']
   refine takeS (i:=5) (d:=32) (v:=.int .i64 m.size) rfl rfl rfl (by kernel_rfl) (by kernel_rfl) (by kernel_rfl) (fun _ _ _ h=>h) (fun w' h=>by(have c:=(HBOXR.out.low h HBOXR.out.blk).cell (j:=5) (v:=.int .i64 m.size) rfl;go_simp)) hS1 ?_
   try simp only[Act.put,sA',sZ',sS']
   refine wpAnyH_ready (rs:=[6]) (by kernel_rfl) (by simp) ?_;refine AllReadyH.cons rfl (fun K hK=> ?_) AllReadyH.nil;go_simp;refine(HAL.out _ hS1).mono ?_;rintro e y1 ⟨rfl,hby⟩;refine hK.out _ _ (hS1.trans (hby.mono hS1.size)) (fun hS2=> ?_);clear hK K
   try simp only[Act.put,List.getElem_toArray,List.getElem_cons_succ,List.getElem_cons_zero,sA',sZ',sS']
   refine takeS (i:=7) (d:=3) (v:=.int .i64 na) rfl rfl rfl (by kernel_rfl) (by kernel_rfl) (by kernel_rfl) (fun _ _ _ h=>h) (fun w' h=>by go_simp) hS2 ?_
   try simp only[Act.put,sA',sZ',sS']
   refine wpAnyH_done (by kernel_rfl) ?_ _;have HTY:Hid (Below w2.heap.size w2 y1):=hd' (HI.out.1.trans (hS2.mono HI.out.1.size));clear hS1 hS2 hby hrr hlr HAL HBOXR HBW0;go_wp2_with fail;clear e1
   go_loopw [3,6] (fun ev kk wr=>∃(q:Nat) (no:Int),q≤i∧ev= .int .i64 no∧kk= .int .i64 (q:Int)∧Hid (Below w2.heap.size w2 wr∧TwoAt m.sigs na s.name i q no)) (fun _ kk _=>i-(intOf kk).toNat)
   case atStart=>exact⟨0,na,by omega,rfl,rfl,hd' ⟨HTY.out,.inl ⟨rfl,fun _ j t h=>by omega⟩⟩⟩
   case round=>
    obtain⟨q,no,hq,rfl,rfl,HK⟩:=hrel;clear HTY;have HBW:Hid (Below w.heap.size w wr):=hd' (HB.out.trans (HK.out.1.mono HB.out.size))
    by_cases hqi:q<i
    ·have e2:((q:Int)<(i:Int))=True:=by simp;omega
     by_cases hz:no=0
     ·have e3:(no==0)=true:=by simp[hz]
      have HA00:Hid (na=0∧∀j t,j<q→m.sigs[j]? =some t→t.name≠s.name):=hd' (by
       rcases HK.out.2 with⟨h1,h2⟩ | ⟨_,h2,_⟩
       ·exact⟨h1.symm.trans hz,h2 (h1.symm.trans hz)⟩
       ·rw[hz]at h2;cases h2)
      have hy:m.sigs[q]? =some (m.sigs[q]'(by have:=HN.out;omega)):=List.getElem?_eq_getElem _;generalize m.sigs[q]'(by have:=HN.out;omega)=t at hy;obtain⟨b2,o2,a2,k2,c2,e,hl2,hrow2,_,_⟩:=HS.out.get hy;injection e with e;injection e with e5 e6 _;subst e5 e6;have HY:=hd' hy;have j1:wr.cell? ⟨b1,o1+q*19+2,none⟩=some (.string t.name):=cells_below hrow2 HBW.out hl1 2 _ rfl;have j2:wr.cell? ⟨b1,o1+i*19+2,none⟩=some (.string s.name):=cells_below HROW.out HBW.out hl1 2 _ rfl
      have q2:(0:Int)≤(q:Int):=by omega
      have q3:(q:Int)<n:=by omega
      have hse:=str_eq t.name s.name;have HBD:Hid (∀r,Below w2.heap.size w2 (wr.drewN r)):=hd' (fun r=>belowN HK.out.1 r);clear hy hl2 hrow2 hz
      by_cases hts:t.name=s.name
      ·have e5:(t.name.toList==s.name.toList)=true:=by rw[hse];simp[hts]
       have HTW:Hid (TwoAt m.sigs na s.name i (q+1) 12):=hd' (.inr ⟨HA00.out.1,rfl,by
        rw[hasW_name]
        exact List.any_eq_true.2 ⟨t,List.mem_of_getElem? (i:=q) (by rw[List.getElem?_take,if_pos hqi];exact HY.out),by simp[hts]⟩⟩)
       clear hse hts
       go_upto_region 12 with fail
       go_quiet (fail)
       go_wp2_with fail;go_roundw
       case rel=>exact⟨q+1,12,by omega,rfl,by go_num,hd' ⟨HBD.out _,HTW.out⟩⟩
       case measure=>simp[intOf];omega
      ·have e5:(t.name.toList==s.name.toList)=false:=by rw[hse];simp;exact fun h=>hts h.symm
       have HTW:Hid (TwoAt m.sigs na s.name i (q+1) no):=hd' (by
        rcases HK.out.2 with⟨h1,_⟩ | ⟨_,h2,_⟩
        ·refine .inl ⟨h1,fun _ j u hj hu=> ?_⟩
         rcases Nat.lt_or_ge j q with h | h
         ·exact HA00.out.2 j u h hu
         ·obtain rfl:j=q:=by omega
          rw[HY.out]at hu;obtain rfl:=Option.some.inj hu;exact hts
        ·rw[h2]at e3;cases e3)
       clear hse hts
       go_upto_region 12 with fail
       go_quiet (fail)
       go_wp2_with fail;go_roundw
       case rel=>exact⟨q+1,no,by omega,rfl,by go_num,hd' ⟨HBD.out _,HTW.out⟩⟩
       case measure=>simp[intOf];omega
     ·have e3:(no==0)=false:=by simp[hz]
      have HEX:=hd' (HK.out.2.no (.inl hz));have hsg:=sigNo_two HX.out (HA0.out▸HEX.out);rw[if_pos hz]at hsg;have hno:=B.no_sig HH.out HX.out HI.out.2 (by rw[hsg];exact hz);rw[hsg]at hno;have HNO:=hd' hno
      have e6:(no !=0)=true:=by simp[hz]
      clear hsg hno hz;have j0:wr.cell? ⟨b1,o1+i*19,none⟩=some (.int .i64 s.line):=cells_below HROW.out HBW.out hl1 0 _ rfl;have j1:wr.cell? ⟨b1,o1+i*19+1,none⟩=some (.int .i64 s.col):=cells_below HROW.out HBW.out hl1 1 _ rfl;have hT:=HK.out.1;go_wp2_with fail;refine(rat_any no s.line s.col _).mono ?_;rintro e wz ⟨rfl,hbz⟩;have hTz:Below w2.heap.size w2 wz:=hT.trans (hbz.mono hT.size);have hres:=HRES.out.low hTz HRES.out.blk;have hth:=hres.there;clear hbz;go_wp2_with (refine wpList_store_mid rfl 36 (.tmp 2) (.tmp 78) rfl w1.heap.size 0 (faultC no s.line s.col) rfl rfl (by rw[faultC_size];exact hth) (by rw[infoFa,faultC_size]) (faultC_ones _ _ _) ?_;generalize hwq:World.setCells _ _ _ _=wq)
      have hrx:RC wq w1.heap.size 36 3 (faultC no s.line s.col):=by
       rw[←hwq];exact hres.store _ (faultC_size _ _ _)
      have HBX:Hid (Below w.heap.size w wq):=hd' (by
       rw[←hwq]
       exact below_put (HB.out.trans (hTz.mono HB.out.size)) (grownBy_setCells _ _ _ _) HZ.out (Nat.le_trans HB.out.size hTz.size))
      clear hwq;exact bodyPost_ret (v:=.agg (faultC no s.line s.col)) (retFault (p:=2) (by kernel_rfl) rfl hrx) rfl ⟨by rw[HNO.out],HBX.out⟩
    ·obtain rfl:q=i:=by omega
     have e2:((q:Int)<(q:Int))=False:=by simp
     have HEX:=hd' (HK.out.2.no (.inr (lR' _)));have hsg:=sigNo_two HX.out (HA0.out▸HEX.out)
     by_cases hz:no=0
     ·rw[if_neg (by simp[hz])]at hsg
      have e5:(no==0)=true:=by simp[hz]
      have e6:(no !=0)=false:=by simp[hz]
      clear hz;have j3:wr.cell? ⟨b1,o1+q*19+3,none⟩=some (.int .i64 s.role):=cells_below HROW.out HBW.out hl1 3 _ rfl
      by_cases hr:s.role=1
      ·have e7:(s.role==1)=true:=by simp[hr]
       have hmx:=rmux_any (some ⟨b1,o1,none⟩) n cap q m.sigs wr (HS.out.below HBW.out (lR' _)) (by omega) (by omega);obtain⟨z,hz⟩:∃z,B.muxZ (m.sigs.take q)=z:=⟨_,rfl⟩;rw[hz]at hmx hsg;clear hz
       by_cases h0:0≤z
       ·have e8:(z≥0)=True:=by simp[h0]
        rw[if_pos ⟨hr,h0⟩]at hsg;have hno:=B.no_sig HH.out HX.out HI.out.2 (by rw[hsg];decide);rw[hsg]at hno;have HNO:=hd' hno;clear hsg hno hr h0;have j0:wr.cell? ⟨b1,o1+q*19,none⟩=some (.int .i64 s.line):=cells_below HROW.out HBW.out hl1 0 _ rfl;have j1:wr.cell? ⟨b1,o1+q*19+1,none⟩=some (.int .i64 s.col):=cells_below HROW.out HBW.out hl1 1 _ rfl;have hT:=HK.out.1;go_wp2_with fail;refine hmx.mono ?_;rintro e wm ⟨rfl,rfl⟩;clear hmx;go_wp2_with fail;refine(rat_any 14 s.line s.col _).mono ?_;rintro e wz ⟨rfl,hbz⟩;have hTz:Below w2.heap.size w2 wz:=hT.trans (hbz.mono hT.size);have hres:=HRES.out.low hTz HRES.out.blk;have hth:=hres.there;clear hbz
        go_wp2_with (refine wpList_store_mid rfl 36 (.tmp 2) (.tmp 78) rfl w1.heap.size 0 (faultC 14 s.line s.col) rfl rfl (by rw[faultC_size];exact hth) (by rw[infoFa,faultC_size]) (faultC_ones _ _ _) ?_;generalize hwq:World.setCells _ _ _ _=wq)
        have hrx:RC wq w1.heap.size 36 3 (faultC 14 s.line s.col):=by
         rw[←hwq];exact hres.store _ (faultC_size _ _ _)
        have HBX:Hid (Below w.heap.size w wq):=hd' (by
         rw[←hwq]
         exact below_put (HB.out.trans (hTz.mono HB.out.size)) (grownBy_setCells _ _ _ _) HZ.out (Nat.le_trans HB.out.size hTz.size))
        clear hwq;exact bodyPost_ret (v:=.agg (faultC 14 s.line s.col)) (retFault (p:=2) (by kernel_rfl) rfl hrx) rfl ⟨by rw[HNO.out],HBX.out⟩
       ·have e8:(z≥0)=False:=by simp;omega
        rw[if_neg (fun h=>h0 h.2)]at hsg;clear hr h0;have HS0:Hid (m.sigNo q=0):=hd' hsg
        have HNX:Hid (∀j,j<q+1→m.sigNo j=0):=hd' (fun j hj=>by
         rcases Nat.lt_or_ge j q with h | h
         ·exact HI.out.2 j h
         ·obtain rfl:j=q:=by omega
          exact HS0.out)
        clear hsg;go_wp2_with fail;refine hmx.mono ?_;rintro e wm ⟨rfl,rfl⟩;clear hmx;go_wp2_with fail;go_roundw
        case rel=>exact⟨q+1,by omega,by go_num,hd' ⟨HK.out.1,HNX.out⟩⟩
        case measure=>simp[intOf];omega
      ·have e7:(s.role==1)=false:=by simp[hr]
       rw[if_neg (fun h=>hr h.1)]at hsg;clear hr;have HS0:Hid (m.sigNo q=0):=hd' hsg
       have HNX:Hid (∀j,j<q+1→m.sigNo j=0):=hd' (fun j hj=>by
        rcases Nat.lt_or_ge j q with h | h
        ·exact HI.out.2 j h
        ·obtain rfl:j=q:=by omega
         exact HS0.out)
       clear hsg;go_wp2_with fail;go_roundw
       case rel=>exact⟨q+1,by omega,by go_num,hd' ⟨HK.out.1,HNX.out⟩⟩
       case measure=>simp[intOf];omega
     ·rw[if_pos hz]at hsg
      have hno:=B.no_sig HH.out HX.out HI.out.2 (by rw[hsg];exact hz);rw[hsg]at hno;have HNO:=hd' hno
      have e5:(no==0)=false:=by simp[hz]
      have e6:(no !=0)=true:=by simp[hz]
      clear hsg hno hz;have j0:wr.cell? ⟨b1,o1+q*19,none⟩=some (.int .i64 s.line):=cells_below HROW.out HBW.out hl1 0 _ rfl;have j1:wr.cell? ⟨b1,o1+q*19+1,none⟩=some (.int .i64 s.col):=cells_below HROW.out HBW.out hl1 1 _ rfl;have hT:=HK.out.1;go_wp2_with fail;refine(rat_any no s.line s.col _).mono ?_;rintro e wz ⟨rfl,hbz⟩;have hTz:Below w2.heap.size w2 wz:=hT.trans (hbz.mono hT.size);have hres:=HRES.out.low hTz HRES.out.blk;have hth:=hres.there;clear hbz;go_wp2_with (refine wpList_store_mid rfl 36 (.tmp 2) (.tmp 78) rfl w1.heap.size 0 (faultC no s.line s.col) rfl rfl (by rw[faultC_size];exact hth) (by rw[infoFa,faultC_size]) (faultC_ones _ _ _) ?_;generalize hwq:World.setCells _ _ _ _=wq)
      have hrx:RC wq w1.heap.size 36 3 (faultC no s.line s.col):=by
       rw[←hwq];exact hres.store _ (faultC_size _ _ _)
      have HBX:Hid (Below w.heap.size w wq):=hd' (by
       rw[←hwq]
       exact below_put (HB.out.trans (hTz.mono HB.out.size)) (grownBy_setCells _ _ _ _) HZ.out (Nat.le_trans HB.out.size hTz.size))
      clear hwq;exact bodyPost_ret (v:=.agg (faultC no s.line s.col)) (retFault (p:=2) (by kernel_rfl) rfl hrx) rfl ⟨by rw[HNO.out],HBX.out⟩
  ·obtain rfl:n=i:=by omega
   have e1:((n:Int)<(n:Int))=False:=by simp
   have hmx:=rmux_any sa n cap n m.sigs wr (HS.out.below (HB.out.trans (HI.out.1.mono HB.out.size)) (lR' _)) (lR' _) (by omega);rw[List.take_of_length_le (by rw[HN.out];exact lR' _)]at hmx;obtain⟨z,hz⟩:∃z,B.muxZ m.sigs=z:=⟨_,rfl⟩;rw[hz]at hmx;have HMZ:=hd' hz;have HSIG:=hd' HI.out.2;have HSIGL:Hid (∀j,j<m.sigs.length→m.sigNo j=0):=hd' (by rw[←HN.out];exact HI.out.2);have HT4:=hd' HI.out.1;clear hz HI;go_wp2_with fail;refine hmx.mono ?_;rintro e wm ⟨rfl,rfl⟩;clear hmx;go_wp2_with fail;clear e1
   go_loopw [8] (fun i wr=>∃k:Nat,k≤n∧i= .int .i64 (k:Int)∧Hid (Below w2.heap.size w2 wr∧∀j,j<k→m.brNo j=0)) (fun i _=>n-(intOf i).toNat)
   case atStart=>exact⟨0,by omega,rfl,hd' ⟨HT4.out,fun j h=>by omega⟩⟩
   case round=>
    obtain⟨i,hi,rfl,HI⟩:=hrel;clear HT4
    by_cases hlt:i<n
    ·have hx:m.sigs[i]? =some (m.sigs[i]'(by have:=HN.out;omega)):=List.getElem?_eq_getElem _
     generalize m.sigs[i]'(by have:=HN.out;omega)=s at hx;obtain⟨b1,o1,a1,k1,c1,rfl,hl1,hrow,hto,hk1⟩:=HS.out.get hx;have HBW0:Hid (Below w.heap.size w wr):=hd' (HB.out.trans (HI.out.1.mono HB.out.size));have hrr:=cells_below hrow HBW0.out hl1;have hlr:b1<wr.heap.size:=Nat.lt_of_lt_of_le hl1 HBW0.out.size;have HSW:=hd' (HM.out.sigs s (List.mem_of_getElem? hx));have HX:=hd' hx;have HROW:=hd' hrow;have HLR:=hd' hlr
     have q0:(0:Int)≤(i:Int):=by omega
     have q1:(i:Int)<n:=by omega
     clear hx hto
     have e1:((i:Int)<(n:Int))=True:=by simp;omega
     have HCR:=hd' (fun(wz:World) (h:Below wr.heap.size wr wz)=>(show wz.cell? ⟨b1,o1+i*19+3,none⟩=some (.int .i64 s.role)from cells_below hrr h HLR.out 3 _ rfl));clear hrow
     by_cases hr:s.role=2
     ·have e7:(s.role==2)=true:=by simp[hr]
      cases hmi:B.muxI m.sigs with
      | none=>
       have hz:z= -1:=by rw[←HMZ.out];unfold B.muxZ;rw[hmi]
       subst hz;have HBN:Hid (m.brNo i≠0):=hd' (by rw[brNo_none HX.out hr hmi];decide);clear hmi hr hrr hlr
       go_upto_region 22 with fail
       refine wp_region_held_drew (S:=Below wr.heap.size wr) (by kernel_rfl) (Below.refl _ _).drew (fun hS1=> ?_);refine takeS (i:=0) (d:=89) (v:=.slice (some ⟨b1,o1,none⟩) n cap) rfl rfl rfl (by kernel_rfl) (by kernel_rfl) (by kernel_rfl) (fun _ _ _ h=>h) (fun w' h=>by go_simp) hS1 ?_
       try simp only[Act.put,sA',sZ',sS']
       refine takeS (i:=1) (d:=90) (v:=.int .i64 (i:Int)) rfl rfl rfl (by kernel_rfl) (by kernel_rfl) (by kernel_rfl) (fun _ _ _ h=>h) (fun w' h=>by go_simp) hS1 ?_
       try simp only[Act.put,sA',sZ',sS']
       refine takeS (i:=2) (d:=91) (v:=.pointer (some ⟨b1,o1+i*19,none⟩)) rfl rfl rfl (by kernel_rfl) (by kernel_rfl) (by kernel_rfl) (fun _ _ _ h=>h) (fun w' h=>by go_simp) hS1 ?_
       try simp only[Act.put,sA',sZ',sS']
       refine takeS (i:=3) (d:=92) (v:=.pointer (some ⟨b1,o1+i*19+3,none⟩)) rfl rfl rfl (by kernel_rfl) (by kernel_rfl) (by kernel_rfl) (fun _ _ _ h=>h) (fun w' h=>by go_simp) hS1 ?_
       try simp only[Act.put,sA',sZ',sS']
       refine takeS (i:=4) (d:=93) (v:=.int .i64 s.role) rfl rfl rfl (by kernel_rfl) (by kernel_rfl) (by kernel_rfl) (fun _ _ _ h=>h) (fun w' h=>by(have c:=HCR.out _ h;go_simp)) hS1 ?_
       try simp only[Act.put,sA',sZ',sS']
       refine takeS (i:=5) (d:=94) (v:=.bool true) rfl rfl rfl (by kernel_rfl) (by kernel_rfl) (by kernel_rfl) (fun _ _ _ h=>h) (fun w' h=>by go_simp) hS1 ?_
       try simp only[Act.put,sA',sZ',sS']
       refine takeS (i:=6) (d:=95) (v:=.bool true) rfl rfl rfl (by kernel_rfl) (by kernel_rfl) (by kernel_rfl) (fun _ _ _ h=>h) (fun w' h=>by go_simp) hS1 ?_
       try simp only[Act.put,sA',sZ',sS']
       refine takeW (i:=7) (d:=96) (v:=.int .i64 (-1)) rfl rfl (by kernel_rfl) (by kernel_rfl) (by kernel_rfl) (fun _ _ _ h=>h) (by rfl) (fun w' h=>by go_simp) hS1 ?_
       try simp only[Act.put,sA',sZ',sS']
       refine takeW (i:=8) (d:=97) (v:=.bool true) rfl rfl (by kernel_rfl) (by kernel_rfl) (by kernel_rfl) (fun _ _ _ h=>h) (by rfl) (fun w' h=>by go_simp) hS1 ?_
       try simp only[Act.put,sA',sZ',sS']
       refine takeW (i:=9) (d:=98) (v:=.bool true) rfl rfl (by kernel_rfl) (by kernel_rfl) (by kernel_rfl) (fun _ _ _ h=>h) (by rfl) (fun w' h=>by go_simp) hS1 ?_
       try simp only[Act.put,sA',sZ',sS']
       refine takeU (i:=10) (d:=99) rfl rfl (by kernel_rfl) (by kernel_rfl) (by kernel_rfl) (fun _ _ _ h=>h) (by rfl) hS1 ?_
       try simp only[Act.put,sA',sZ',sS']
       refine takeU (i:=11) (d:=100) rfl rfl (by kernel_rfl) (by kernel_rfl) (by kernel_rfl) (fun _ _ _ h=>h) (by rfl) hS1 ?_
       try simp only[Act.put,sA',sZ',sS']
       refine takeU (i:=12) (d:=101) rfl rfl (by kernel_rfl) (by kernel_rfl) (by kernel_rfl) (fun _ _ _ h=>h) (by rfl) hS1 ?_
       try simp only[Act.put,sA',sZ',sS']
       refine takeU (i:=13) (d:=102) rfl rfl (by kernel_rfl) (by kernel_rfl) (by kernel_rfl) (fun _ _ _ h=>h) (by rfl) hS1 ?_
       try simp only[Act.put,sA',sZ',sS']
       refine takeU (i:=14) (d:=103) rfl rfl (by kernel_rfl) (by kernel_rfl) (by kernel_rfl) (fun _ _ _ h=>h) (by rfl) hS1 ?_
       try simp only[Act.put,sA',sZ',sS']
       refine takeU (i:=15) (d:=104) rfl rfl (by kernel_rfl) (by kernel_rfl) (by kernel_rfl) (fun _ _ _ h=>h) (by rfl) hS1 ?_
       try simp only[Act.put,sA',sZ',sS']
       refine takeU (i:=16) (d:=105) rfl rfl (by kernel_rfl) (by kernel_rfl) (by kernel_rfl) (fun _ _ _ h=>h) (by rfl) hS1 ?_
       try simp only[Act.put,sA',sZ',sS']
       refine takeU (i:=17) (d:=106) rfl rfl (by kernel_rfl) (by kernel_rfl) (by kernel_rfl) (fun _ _ _ h=>h) (by rfl) hS1 ?_
       try simp only[Act.put,sA',sZ',sS']
       refine takeU (i:=18) (d:=107) rfl rfl (by kernel_rfl) (by kernel_rfl) (by kernel_rfl) (fun _ _ _ h=>h) (by rfl) hS1 ?_
       try simp only[Act.put,sA',sZ',sS']
       refine takeU (i:=19) (d:=108) rfl rfl (by kernel_rfl) (by kernel_rfl) (by kernel_rfl) (fun _ _ _ h=>h) (by rfl) hS1 ?_
       try simp only[Act.put,sA',sZ',sS']
       refine takeU (i:=20) (d:=109) rfl rfl (by kernel_rfl) (by kernel_rfl) (by kernel_rfl) (fun _ _ _ h=>h) (by rfl) hS1 ?_
       try simp only[Act.put,sA',sZ',sS']
       refine takeU (i:=21) (d:=110) rfl rfl (by kernel_rfl) (by kernel_rfl) (by kernel_rfl) (fun _ _ _ h=>h) (by rfl) hS1 ?_
       try simp only[Act.put,sA',sZ',sS']
       refine takeU (i:=22) (d:=111) rfl rfl (by kernel_rfl) (by kernel_rfl) (by kernel_rfl) (fun _ _ _ h=>h) (by rfl) hS1 ?_
       try simp only[Act.put,sA',sZ',sS']
       refine takeU (i:=23) (d:=112) rfl rfl (by kernel_rfl) (by kernel_rfl) (by kernel_rfl) (fun _ _ _ h=>h) (by rfl) hS1 ?_
       try simp only[Act.put,sA',sZ',sS']
       refine takeU (i:=24) (d:=113) rfl rfl (by kernel_rfl) (by kernel_rfl) (by kernel_rfl) (fun _ _ _ h=>h) (by rfl) hS1 ?_
       try simp only[Act.put,sA',sZ',sS']
       refine takeU (i:=25) (d:=114) rfl rfl (by kernel_rfl) (by kernel_rfl) (by kernel_rfl) (fun _ _ _ h=>h) (by rfl) hS1 ?_
       try simp only[Act.put,sA',sZ',sS']
       refine takeU (i:=26) (d:=115) rfl rfl (by kernel_rfl) (by kernel_rfl) (by kernel_rfl) (fun _ _ _ h=>h) (by rfl) hS1 ?_
       try simp only[Act.put,sA',sZ',sS']
       refine takeW (i:=27) (d:=116) (v:=.bool true) rfl rfl (by kernel_rfl) (by kernel_rfl) (by kernel_rfl) (fun _ _ _ h=>h) (by rfl) (fun w' h=>by go_simp) hS1 ?_
       try simp only[Act.put,sA',sZ',sS']
       refine takeS (i:=28) (d:=117) (v:=.bool true) rfl rfl rfl (by kernel_rfl) (by kernel_rfl) (by kernel_rfl) (fun _ _ _ h=>h) (fun w' h=>by go_simp) hS1 ?_
       try simp only[Act.put,sA',sZ',sS']
       refine wpAnyH_done (by kernel_rfl) ?_ _;obtain⟨y1,hyy⟩:∃y,wr.drew=y:=⟨_,rfl⟩;rw[hyy]at hS1⊢;clear hyy;clear e1;have HNO:=hd' (B.no_br HH.out HSIGL.out HX.out HI.out.2 HBN.out);have HTY:=hd' (HI.out.1.trans (hS1.mono HI.out.1.size));have hBWY:Below w.heap.size w y1:=HB.out.trans (HTY.out.mono HB.out.size);have j0:y1.cell? ⟨b1,o1+i*19,none⟩=some (.int .i64 s.line):=cells_below HROW.out hBWY hl1 0 _ rfl;have j1:y1.cell? ⟨b1,o1+i*19+1,none⟩=some (.int .i64 s.col):=cells_below HROW.out hBWY hl1 1 _ rfl;have hT:=HTY.out;clear hBWY;go_wp2_with fail;refine(rat_any 14 s.line s.col _).mono ?_;rintro e wz ⟨rfl,hbz⟩;have hTz:Below w2.heap.size w2 wz:=hT.trans (hbz.mono hT.size);have hres:=HRES.out.low hTz HRES.out.blk;have hth:=hres.there;clear hbz
       go_wp2_with (refine wpList_store_mid rfl 36 (.tmp 2) (.tmp 123) rfl w1.heap.size 0 (faultC 14 s.line s.col) rfl rfl (by rw[faultC_size];exact hth) (by rw[infoFa,faultC_size]) (faultC_ones _ _ _) ?_;generalize hwq:World.setCells _ _ _ _=wq)
       have hrx:RC wq w1.heap.size 36 3 (faultC 14 s.line s.col):=by
        rw[←hwq];exact hres.store _ (faultC_size _ _ _)
       have HBX:Hid (Below w.heap.size w wq):=hd' (by
        rw[←hwq]
        exact below_put (HB.out.trans (hTz.mono HB.out.size)) (grownBy_setCells _ _ _ _) HZ.out (Nat.le_trans HB.out.size hTz.size))
       clear hwq;exact bodyPost_ret (v:=.agg (faultC 14 s.line s.col)) (retFault (p:=2) (by kernel_rfl) rfl hrx) rfl ⟨by rw[HNO.out],HBX.out⟩
      | some q=>
       have hz:z=(q:Int):=by rw[←HMZ.out];unfold B.muxZ;rw[hmi]
       subst hz;obtain⟨t,ht,_⟩:=B.muxI_some hmi
       have hqn:q<n:=by have:=(List.getElem?_eq_some_iff.1 ht).1;have:=HN.out;omega
       have hpl:=alone_place (sigNo_alone ht (HSIG.out q hqn));have hsz:=(B.Sig.place_ok hpl).1;obtain⟨b2,o2,a2,k2,c2,e,hl2,hrow2,_,_⟩:=HS.out.get ht;injection e with e;injection e with e5 e6 _;subst e5 e6;have hrr2:=cells_below hrow2 HBW0.out hl2;obtain⟨v,hv⟩:∃v:Nat,s.branch=(v:Int):=⟨s.branch.toNat,by have:=HSW.out.branch;unfold B.InU64 at this;omega⟩;obtain⟨tz,htz⟩:∃tz:Nat,t.size=(tz:Int):=⟨t.size.toNat,by omega⟩
       have hv64:v<18446744073709551616:=by have:=HSW.out.branch;unfold B.InU64 at this;omega
       have hcv:=hrr 4 _ rfl;rw[hv]at hcv;have HCV:=hd' (fun(wz:World) (h:Below wr.heap.size wr wz)=>(h.cell (p:=⟨b1,o1+i*19+4,none⟩) HLR.out).trans hcv);have hcz:=hrr2 6 _ rfl;rw[htz]at hcz;have HCZ:=hd' (fun(wz:World) (h:Below wr.heap.size wr wz)=>(h.cell (p:=⟨b1,o1+q*19+6,none⟩) HLR.out).trans hcz);have HCG:=hd' (fun(wz:World) (h:Below wr.heap.size wr wz)=>(show wz.cell? ⟨b1,o1+q*19+8,none⟩=some (.bool t.signed)from cells_below hrr2 h HLR.out 8 _ rfl));have hbr:=brNo_some HX.out hr hmi ht;rw[hv,htz,Int.toNat_natCast,Int.toNat_natCast]at hbr
       have hft:=fun wz=>r9fits_any v tz t.signed wz hv64 (by omega) (by omega)
       have q2:(0:Int)≤(q:Int):=by omega
       have q3:(q:Int)<n:=by omega
       have e8:((q:Int)<0)=False:=by simp
       clear hmi hr hrr hlr ht hqn hpl hsz hl2 hrow2 hrr2 hv htz hv64 hcv hcz
       cases hf:B.fits v tz t.signed with
       | true=>
        rw[hf]at hft;have HFT:=hd' hft;have HB0:Hid (m.brNo i=0):=hd' (by rw[hbr,if_pos hf]);clear hft hbr hf
        go_upto_region 22 with fail
        refine wp_region_held_drew (S:=Below wr.heap.size wr) (by kernel_rfl) (Below.refl _ _).drew (fun hS1=> ?_);refine takeS (i:=0) (d:=89) (v:=.slice (some ⟨b1,o1,none⟩) n cap) rfl rfl rfl (by kernel_rfl) (by kernel_rfl) (by kernel_rfl) (fun _ _ _ h=>h) (fun w' h=>by go_simp) hS1 ?_
        try simp only[Act.put,sA',sZ',sS']
        refine takeS (i:=1) (d:=90) (v:=.int .i64 (i:Int)) rfl rfl rfl (by kernel_rfl) (by kernel_rfl) (by kernel_rfl) (fun _ _ _ h=>h) (fun w' h=>by go_simp) hS1 ?_
        try simp only[Act.put,sA',sZ',sS']
        refine takeS (i:=2) (d:=91) (v:=.pointer (some ⟨b1,o1+i*19,none⟩)) rfl rfl rfl (by kernel_rfl) (by kernel_rfl) (by kernel_rfl) (fun _ _ _ h=>h) (fun w' h=>by go_simp) hS1 ?_
        try simp only[Act.put,sA',sZ',sS']
        refine takeS (i:=3) (d:=92) (v:=.pointer (some ⟨b1,o1+i*19+3,none⟩)) rfl rfl rfl (by kernel_rfl) (by kernel_rfl) (by kernel_rfl) (fun _ _ _ h=>h) (fun w' h=>by go_simp) hS1 ?_
        try simp only[Act.put,sA',sZ',sS']
        refine takeS (i:=4) (d:=93) (v:=.int .i64 s.role) rfl rfl rfl (by kernel_rfl) (by kernel_rfl) (by kernel_rfl) (fun _ _ _ h=>h) (fun w' h=>by(have c:=HCR.out _ h;go_simp)) hS1 ?_
        try simp only[Act.put,sA',sZ',sS']
        refine takeS (i:=5) (d:=94) (v:=.bool true) rfl rfl rfl (by kernel_rfl) (by kernel_rfl) (by kernel_rfl) (fun _ _ _ h=>h) (fun w' h=>by go_simp) hS1 ?_
        try simp only[Act.put,sA',sZ',sS']
        refine takeS (i:=6) (d:=95) (v:=.bool true) rfl rfl rfl (by kernel_rfl) (by kernel_rfl) (by kernel_rfl) (fun _ _ _ h=>h) (fun w' h=>by go_simp) hS1 ?_
        try simp only[Act.put,sA',sZ',sS']
        refine takeW (i:=7) (d:=96) (v:=.int .i64 (q:Int)) rfl rfl (by kernel_rfl) (by kernel_rfl) (by kernel_rfl) (fun _ _ _ h=>h) (by rfl) (fun w' h=>by go_simp) hS1 ?_
        try simp only[Act.put,sA',sZ',sS']
        refine takeW (i:=8) (d:=97) (v:=.bool false) rfl rfl (by kernel_rfl) (by kernel_rfl) (by kernel_rfl) (fun _ _ _ h=>h) (by rfl) (fun w' h=>by go_simp) hS1 ?_
        try simp only[Act.put,sA',sZ',sS']
        refine takeW (i:=9) (d:=98) (v:=.bool false) rfl rfl (by kernel_rfl) (by kernel_rfl) (by kernel_rfl) (fun _ _ _ h=>h) (by rfl) (fun w' h=>by go_simp) hS1 ?_
        try simp only[Act.put,sA',sZ',sS']
        refine takeW (i:=10) (d:=99) (v:=.slice (some ⟨b1,o1,none⟩) n cap) rfl rfl (by kernel_rfl) (by kernel_rfl) (by kernel_rfl) (fun _ _ _ h=>h) (by rfl) (fun w' h=>by go_simp) hS1 ?_
        try simp only[Act.put,sA',sZ',sS']
        refine takeW (i:=11) (d:=100) (v:=.int .i64 (i:Int)) rfl rfl (by kernel_rfl) (by kernel_rfl) (by kernel_rfl) (fun _ _ _ h=>h) (by rfl) (fun w' h=>by go_simp) hS1 ?_
        try simp only[Act.put,sA',sZ',sS']
        refine takeW (i:=12) (d:=101) (v:=.pointer (some ⟨b1,o1+i*19,none⟩)) rfl rfl (by kernel_rfl) (by kernel_rfl) (by kernel_rfl) (fun _ _ _ h=>h) (by rfl) (fun w' h=>by go_simp) hS1 ?_
        try simp only[Act.put,sA',sZ',sS']
        refine takeW (i:=13) (d:=102) (v:=.pointer (some ⟨b1,o1+i*19+4,none⟩)) rfl rfl (by kernel_rfl) (by kernel_rfl) (by kernel_rfl) (fun _ _ _ h=>h) (by rfl) (fun w' h=>by go_simp) hS1 ?_
        try simp only[Act.put,sA',sZ',sS']
        refine takeW (i:=14) (d:=103) (v:=.int .u64 (v:Int)) rfl rfl (by kernel_rfl) (by kernel_rfl) (by kernel_rfl) (fun _ _ _ h=>h) (by rfl) (fun w' h=>by(have c:=HCV.out _ h;go_simp)) hS1 ?_
        try simp only[Act.put,sA',sZ',sS']
        refine takeW (i:=15) (d:=104) (v:=.slice (some ⟨b1,o1,none⟩) n cap) rfl rfl (by kernel_rfl) (by kernel_rfl) (by kernel_rfl) (fun _ _ _ h=>h) (by rfl) (fun w' h=>by go_simp) hS1 ?_
        try simp only[Act.put,sA',sZ',sS']
        refine takeW (i:=16) (d:=105) (v:=.int .i64 (q:Int)) rfl rfl (by kernel_rfl) (by kernel_rfl) (by kernel_rfl) (fun _ _ _ h=>h) (by rfl) (fun w' h=>by go_simp) hS1 ?_
        try simp only[Act.put,sA',sZ',sS']
        refine takeW (i:=17) (d:=106) (v:=.pointer (some ⟨b1,o1+q*19,none⟩)) rfl rfl (by kernel_rfl) (by kernel_rfl) (by kernel_rfl) (fun _ _ _ h=>h) (by rfl) (fun w' h=>by go_simp) hS1 ?_
        try simp only[Act.put,sA',sZ',sS']
        refine takeW (i:=18) (d:=107) (v:=.pointer (some ⟨b1,o1+q*19+6,none⟩)) rfl rfl (by kernel_rfl) (by kernel_rfl) (by kernel_rfl) (fun _ _ _ h=>h) (by rfl) (fun w' h=>by go_simp) hS1 ?_
        try simp only[Act.put,sA',sZ',sS']
        refine takeW (i:=19) (d:=108) (v:=.int .i64 (tz:Int)) rfl rfl (by kernel_rfl) (by kernel_rfl) (by kernel_rfl) (fun _ _ _ h=>h) (by rfl) (fun w' h=>by(have c:=HCZ.out _ h;go_simp)) hS1 ?_
        try simp only[Act.put,sA',sZ',sS']
        refine takeW (i:=20) (d:=109) (v:=.slice (some ⟨b1,o1,none⟩) n cap) rfl rfl (by kernel_rfl) (by kernel_rfl) (by kernel_rfl) (fun _ _ _ h=>h) (by rfl) (fun w' h=>by go_simp) hS1 ?_
        try simp only[Act.put,sA',sZ',sS']
        refine takeW (i:=21) (d:=110) (v:=.int .i64 (q:Int)) rfl rfl (by kernel_rfl) (by kernel_rfl) (by kernel_rfl) (fun _ _ _ h=>h) (by rfl) (fun w' h=>by go_simp) hS1 ?_
        try simp only[Act.put,sA',sZ',sS']
        refine takeW (i:=22) (d:=111) (v:=.pointer (some ⟨b1,o1+q*19,none⟩)) rfl rfl (by kernel_rfl) (by kernel_rfl) (by kernel_rfl) (fun _ _ _ h=>h) (by rfl) (fun w' h=>by go_simp) hS1 ?_
        try simp only[Act.put,sA',sZ',sS']
        refine takeW (i:=23) (d:=112) (v:=.pointer (some ⟨b1,o1+q*19+8,none⟩)) rfl rfl (by kernel_rfl) (by kernel_rfl) (by kernel_rfl) (fun _ _ _ h=>h) (by rfl) (fun w' h=>by go_simp) hS1 ?_
        try simp only[Act.put,sA',sZ',sS']
        refine takeW (i:=24) (d:=113) (v:=.bool t.signed) rfl rfl (by kernel_rfl) (by kernel_rfl) (by kernel_rfl) (fun _ _ _ h=>h) (by rfl) (fun w' h=>by(have c:=HCG.out _ h;go_simp)) hS1 ?_
        try simp only[Act.put,sA',sZ',sS']
        refine wpAnyH_ready (rs:=[25]) (by kernel_rfl) (by simp) ?_;refine AllReadyH.cons rfl (fun K hK=> ?_) AllReadyH.nil;go_simp;refine(HFT.out _).mono ?_;rintro e y1 ⟨rfl,rfl⟩;refine hK.out _ _ hS1 (fun hS2=> ?_);clear hK K
        try simp only[Act.put,List.getElem_toArray,List.getElem_cons_succ,List.getElem_cons_zero,sA',sZ',sS']
        refine takeW (i:=26) (d:=115) (v:=.bool false) rfl rfl (by kernel_rfl) (by kernel_rfl) (by kernel_rfl) (fun _ _ _ h=>h) (by rfl) (fun w' h=>by go_simp) hS2 ?_
        try simp only[Act.put,sA',sZ',sS']
        refine takeW (i:=27) (d:=116) (v:=.bool false) rfl rfl (by kernel_rfl) (by kernel_rfl) (by kernel_rfl) (fun _ _ _ h=>h) (by rfl) (fun w' h=>by go_simp) hS2 ?_
        try simp only[Act.put,sA',sZ',sS']
        refine takeS (i:=28) (d:=117) (v:=.bool false) rfl rfl rfl (by kernel_rfl) (by kernel_rfl) (by kernel_rfl) (fun _ _ _ h=>h) (fun w' h=>by go_simp) hS2 ?_
        try simp only[Act.put,sA',sZ',sS']
        refine wpAnyH_done (by kernel_rfl) ?_ _;obtain⟨y1,hyy⟩:∃y,wr.drew=y:=⟨_,rfl⟩;rw[hyy]at hS1⊢;clear hyy hS2;clear e1 e7 e8
        have HNX:Hid (∀j,j<i+1→m.brNo j=0):=hd' (fun j hj=>by
         rcases Nat.lt_or_ge j i with h | h
         ·exact HI.out.2 j h
         ·obtain rfl:j=i:=by omega
          exact HB0.out)
        have HTY:=hd' (HI.out.1.trans (hS1.mono HI.out.1.size));clear hS1;go_wp2_with fail;go_roundw
        case rel=>exact⟨i+1,by omega,by go_num,hd' ⟨HTY.out,HNX.out⟩⟩
        case measure=>simp[intOf];omega
       | false=>
        rw[hf]at hft;have HFT:=hd' hft;have HBN:Hid (m.brNo i≠0):=hd' (by rw[hbr,if_neg (by rw[hf];simp)];decide);clear hft hbr hf
        go_upto_region 22 with fail
        refine wp_region_held_drew (S:=Below wr.heap.size wr) (by kernel_rfl) (Below.refl _ _).drew (fun hS1=> ?_);refine takeS (i:=0) (d:=89) (v:=.slice (some ⟨b1,o1,none⟩) n cap) rfl rfl rfl (by kernel_rfl) (by kernel_rfl) (by kernel_rfl) (fun _ _ _ h=>h) (fun w' h=>by go_simp) hS1 ?_
        try simp only[Act.put,sA',sZ',sS']
        refine takeS (i:=1) (d:=90) (v:=.int .i64 (i:Int)) rfl rfl rfl (by kernel_rfl) (by kernel_rfl) (by kernel_rfl) (fun _ _ _ h=>h) (fun w' h=>by go_simp) hS1 ?_
        try simp only[Act.put,sA',sZ',sS']
        refine takeS (i:=2) (d:=91) (v:=.pointer (some ⟨b1,o1+i*19,none⟩)) rfl rfl rfl (by kernel_rfl) (by kernel_rfl) (by kernel_rfl) (fun _ _ _ h=>h) (fun w' h=>by go_simp) hS1 ?_
        try simp only[Act.put,sA',sZ',sS']
        refine takeS (i:=3) (d:=92) (v:=.pointer (some ⟨b1,o1+i*19+3,none⟩)) rfl rfl rfl (by kernel_rfl) (by kernel_rfl) (by kernel_rfl) (fun _ _ _ h=>h) (fun w' h=>by go_simp) hS1 ?_
        try simp only[Act.put,sA',sZ',sS']
        refine takeS (i:=4) (d:=93) (v:=.int .i64 s.role) rfl rfl rfl (by kernel_rfl) (by kernel_rfl) (by kernel_rfl) (fun _ _ _ h=>h) (fun w' h=>by(have c:=HCR.out _ h;go_simp)) hS1 ?_
        try simp only[Act.put,sA',sZ',sS']
        refine takeS (i:=5) (d:=94) (v:=.bool true) rfl rfl rfl (by kernel_rfl) (by kernel_rfl) (by kernel_rfl) (fun _ _ _ h=>h) (fun w' h=>by go_simp) hS1 ?_
        try simp only[Act.put,sA',sZ',sS']
        refine takeS (i:=6) (d:=95) (v:=.bool true) rfl rfl rfl (by kernel_rfl) (by kernel_rfl) (by kernel_rfl) (fun _ _ _ h=>h) (fun w' h=>by go_simp) hS1 ?_
        try simp only[Act.put,sA',sZ',sS']
        refine takeW (i:=7) (d:=96) (v:=.int .i64 (q:Int)) rfl rfl (by kernel_rfl) (by kernel_rfl) (by kernel_rfl) (fun _ _ _ h=>h) (by rfl) (fun w' h=>by go_simp) hS1 ?_
        try simp only[Act.put,sA',sZ',sS']
        refine takeW (i:=8) (d:=97) (v:=.bool false) rfl rfl (by kernel_rfl) (by kernel_rfl) (by kernel_rfl) (fun _ _ _ h=>h) (by rfl) (fun w' h=>by go_simp) hS1 ?_
        try simp only[Act.put,sA',sZ',sS']
        refine takeW (i:=9) (d:=98) (v:=.bool false) rfl rfl (by kernel_rfl) (by kernel_rfl) (by kernel_rfl) (fun _ _ _ h=>h) (by rfl) (fun w' h=>by go_simp) hS1 ?_
        try simp only[Act.put,sA',sZ',sS']
        refine takeW (i:=10) (d:=99) (v:=.slice (some ⟨b1,o1,none⟩) n cap) rfl rfl (by kernel_rfl) (by kernel_rfl) (by kernel_rfl) (fun _ _ _ h=>h) (by rfl) (fun w' h=>by go_simp) hS1 ?_
        try simp only[Act.put,sA',sZ',sS']
        refine takeW (i:=11) (d:=100) (v:=.int .i64 (i:Int)) rfl rfl (by kernel_rfl) (by kernel_rfl) (by kernel_rfl) (fun _ _ _ h=>h) (by rfl) (fun w' h=>by go_simp) hS1 ?_
        try simp only[Act.put,sA',sZ',sS']
        refine takeW (i:=12) (d:=101) (v:=.pointer (some ⟨b1,o1+i*19,none⟩)) rfl rfl (by kernel_rfl) (by kernel_rfl) (by kernel_rfl) (fun _ _ _ h=>h) (by rfl) (fun w' h=>by go_simp) hS1 ?_
        try simp only[Act.put,sA',sZ',sS']
        refine takeW (i:=13) (d:=102) (v:=.pointer (some ⟨b1,o1+i*19+4,none⟩)) rfl rfl (by kernel_rfl) (by kernel_rfl) (by kernel_rfl) (fun _ _ _ h=>h) (by rfl) (fun w' h=>by go_simp) hS1 ?_
        try simp only[Act.put,sA',sZ',sS']
        refine takeW (i:=14) (d:=103) (v:=.int .u64 (v:Int)) rfl rfl (by kernel_rfl) (by kernel_rfl) (by kernel_rfl) (fun _ _ _ h=>h) (by rfl) (fun w' h=>by(have c:=HCV.out _ h;go_simp)) hS1 ?_
        try simp only[Act.put,sA',sZ',sS']
        refine takeW (i:=15) (d:=104) (v:=.slice (some ⟨b1,o1,none⟩) n cap) rfl rfl (by kernel_rfl) (by kernel_rfl) (by kernel_rfl) (fun _ _ _ h=>h) (by rfl) (fun w' h=>by go_simp) hS1 ?_
        try simp only[Act.put,sA',sZ',sS']
        refine takeW (i:=16) (d:=105) (v:=.int .i64 (q:Int)) rfl rfl (by kernel_rfl) (by kernel_rfl) (by kernel_rfl) (fun _ _ _ h=>h) (by rfl) (fun w' h=>by go_simp) hS1 ?_
        try simp only[Act.put,sA',sZ',sS']
        refine takeW (i:=17) (d:=106) (v:=.pointer (some ⟨b1,o1+q*19,none⟩)) rfl rfl (by kernel_rfl) (by kernel_rfl) (by kernel_rfl) (fun _ _ _ h=>h) (by rfl) (fun w' h=>by go_simp) hS1 ?_
        try simp only[Act.put,sA',sZ',sS']
        refine takeW (i:=18) (d:=107) (v:=.pointer (some ⟨b1,o1+q*19+6,none⟩)) rfl rfl (by kernel_rfl) (by kernel_rfl) (by kernel_rfl) (fun _ _ _ h=>h) (by rfl) (fun w' h=>by go_simp) hS1 ?_
        try simp only[Act.put,sA',sZ',sS']
        refine takeW (i:=19) (d:=108) (v:=.int .i64 (tz:Int)) rfl rfl (by kernel_rfl) (by kernel_rfl) (by kernel_rfl) (fun _ _ _ h=>h) (by rfl) (fun w' h=>by(have c:=HCZ.out _ h;go_simp)) hS1 ?_
        try simp only[Act.put,sA',sZ',sS']
        refine takeW (i:=20) (d:=109) (v:=.slice (some ⟨b1,o1,none⟩) n cap) rfl rfl (by kernel_rfl) (by kernel_rfl) (by kernel_rfl) (fun _ _ _ h=>h) (by rfl) (fun w' h=>by go_simp) hS1 ?_
        try simp only[Act.put,sA',sZ',sS']
        refine takeW (i:=21) (d:=110) (v:=.int .i64 (q:Int)) rfl rfl (by kernel_rfl) (by kernel_rfl) (by kernel_rfl) (fun _ _ _ h=>h) (by rfl) (fun w' h=>by go_simp) hS1 ?_
        try simp only[Act.put,sA',sZ',sS']
        refine takeW (i:=22) (d:=111) (v:=.pointer (some ⟨b1,o1+q*19,none⟩)) rfl rfl (by kernel_rfl) (by kernel_rfl) (by kernel_rfl) (fun _ _ _ h=>h) (by rfl) (fun w' h=>by go_simp) hS1 ?_
        try simp only[Act.put,sA',sZ',sS']
        refine takeW (i:=23) (d:=112) (v:=.pointer (some ⟨b1,o1+q*19+8,none⟩)) rfl rfl (by kernel_rfl) (by kernel_rfl) (by kernel_rfl) (fun _ _ _ h=>h) (by rfl) (fun w' h=>by go_simp) hS1 ?_
        try simp only[Act.put,sA',sZ',sS']
        refine takeW (i:=24) (d:=113) (v:=.bool t.signed) rfl rfl (by kernel_rfl) (by kernel_rfl) (by kernel_rfl) (fun _ _ _ h=>h) (by rfl) (fun w' h=>by(have c:=HCG.out _ h;go_simp)) hS1 ?_
        try simp only[Act.put,sA',sZ',sS']
        refine wpAnyH_ready (rs:=[25]) (by kernel_rfl) (by simp) ?_;refine AllReadyH.cons rfl (fun K hK=> ?_) AllReadyH.nil;go_simp;refine(HFT.out _).mono ?_;rintro e y1 ⟨rfl,rfl⟩;refine hK.out _ _ hS1 (fun hS2=> ?_);clear hK K
        try simp only[Act.put,List.getElem_toArray,List.getElem_cons_succ,List.getElem_cons_zero,sA',sZ',sS']
        refine takeW (i:=26) (d:=115) (v:=.bool true) rfl rfl (by kernel_rfl) (by kernel_rfl) (by kernel_rfl) (fun _ _ _ h=>h) (by rfl) (fun w' h=>by go_simp) hS2 ?_
        try simp only[Act.put,sA',sZ',sS']
        refine takeW (i:=27) (d:=116) (v:=.bool true) rfl rfl (by kernel_rfl) (by kernel_rfl) (by kernel_rfl) (fun _ _ _ h=>h) (by rfl) (fun w' h=>by go_simp) hS2 ?_
        try simp only[Act.put,sA',sZ',sS']
        refine takeS (i:=28) (d:=117) (v:=.bool true) rfl rfl rfl (by kernel_rfl) (by kernel_rfl) (by kernel_rfl) (fun _ _ _ h=>h) (fun w' h=>by go_simp) hS2 ?_
        try simp only[Act.put,sA',sZ',sS']
        refine wpAnyH_done (by kernel_rfl) ?_ _;obtain⟨y1,hyy⟩:∃y,wr.drew=y:=⟨_,rfl⟩;rw[hyy]at hS1⊢;clear hyy hS2;clear e1 e7 e8;have HNO:=hd' (B.no_br HH.out HSIGL.out HX.out HI.out.2 HBN.out);have HTY:=hd' (HI.out.1.trans (hS1.mono HI.out.1.size));have hBWY:Below w.heap.size w y1:=HB.out.trans (HTY.out.mono HB.out.size);have j0:y1.cell? ⟨b1,o1+i*19,none⟩=some (.int .i64 s.line):=cells_below HROW.out hBWY hl1 0 _ rfl;have j1:y1.cell? ⟨b1,o1+i*19+1,none⟩=some (.int .i64 s.col):=cells_below HROW.out hBWY hl1 1 _ rfl;have hT:=HTY.out;clear hBWY;go_wp2_with fail;refine(rat_any 14 s.line s.col _).mono ?_;rintro e wz ⟨rfl,hbz⟩;have hTz:Below w2.heap.size w2 wz:=hT.trans (hbz.mono hT.size);have hres:=HRES.out.low hTz HRES.out.blk;have hth:=hres.there;clear hbz
        go_wp2_with (refine wpList_store_mid rfl 36 (.tmp 2) (.tmp 123) rfl w1.heap.size 0 (faultC 14 s.line s.col) rfl rfl (by rw[faultC_size];exact hth) (by rw[infoFa,faultC_size]) (faultC_ones _ _ _) ?_;generalize hwq:World.setCells _ _ _ _=wq)
        have hrx:RC wq w1.heap.size 36 3 (faultC 14 s.line s.col):=by
         rw[←hwq];exact hres.store _ (faultC_size _ _ _)
        have HBX:Hid (Below w.heap.size w wq):=hd' (by
         rw[←hwq]
         exact below_put (HB.out.trans (hTz.mono HB.out.size)) (grownBy_setCells _ _ _ _) HZ.out (Nat.le_trans HB.out.size hTz.size))
        clear hwq;exact bodyPost_ret (v:=.agg (faultC 14 s.line s.col)) (retFault (p:=2) (by kernel_rfl) rfl hrx) rfl ⟨by rw[HNO.out],HBX.out⟩
     ·have e7:(s.role==2)=false:=by simp[hr]
      have HB0:Hid (m.brNo i=0):=hd' (brNo_plain HX.out hr);clear hr hrr hlr
      go_upto_region 22 with fail
      refine wp_region_held_drew (S:=Below wr.heap.size wr) (by kernel_rfl) (Below.refl _ _).drew (fun hS1=> ?_);refine takeS (i:=0) (d:=89) (v:=.slice (some ⟨b1,o1,none⟩) n cap) rfl rfl rfl (by kernel_rfl) (by kernel_rfl) (by kernel_rfl) (fun _ _ _ h=>h) (fun w' h=>by go_simp) hS1 ?_
      try simp only[Act.put,sA',sZ',sS']
      refine takeS (i:=1) (d:=90) (v:=.int .i64 (i:Int)) rfl rfl rfl (by kernel_rfl) (by kernel_rfl) (by kernel_rfl) (fun _ _ _ h=>h) (fun w' h=>by go_simp) hS1 ?_
      try simp only[Act.put,sA',sZ',sS']
      refine takeS (i:=2) (d:=91) (v:=.pointer (some ⟨b1,o1+i*19,none⟩)) rfl rfl rfl (by kernel_rfl) (by kernel_rfl) (by kernel_rfl) (fun _ _ _ h=>h) (fun w' h=>by go_simp) hS1 ?_
      try simp only[Act.put,sA',sZ',sS']
      refine takeS (i:=3) (d:=92) (v:=.pointer (some ⟨b1,o1+i*19+3,none⟩)) rfl rfl rfl (by kernel_rfl) (by kernel_rfl) (by kernel_rfl) (fun _ _ _ h=>h) (fun w' h=>by go_simp) hS1 ?_
      try simp only[Act.put,sA',sZ',sS']
      refine takeS (i:=4) (d:=93) (v:=.int .i64 s.role) rfl rfl rfl (by kernel_rfl) (by kernel_rfl) (by kernel_rfl) (fun _ _ _ h=>h) (fun w' h=>by(have c:=HCR.out _ h;go_simp)) hS1 ?_
      try simp only[Act.put,sA',sZ',sS']
      refine takeS (i:=5) (d:=94) (v:=.bool false) rfl rfl rfl (by kernel_rfl) (by kernel_rfl) (by kernel_rfl) (fun _ _ _ h=>h) (fun w' h=>by go_simp) hS1 ?_
      try simp only[Act.put,sA',sZ',sS']
      refine takeS (i:=6) (d:=95) (v:=.bool false) rfl rfl rfl (by kernel_rfl) (by kernel_rfl) (by kernel_rfl) (fun _ _ _ h=>h) (fun w' h=>by go_simp) hS1 ?_
      try simp only[Act.put,sA',sZ',sS']
      refine takeU (i:=7) (d:=96) rfl rfl (by kernel_rfl) (by kernel_rfl) (by kernel_rfl) (fun _ _ _ h=>h) (by rfl) hS1 ?_
      try simp only[Act.put,sA',sZ',sS']
      refine takeU (i:=8) (d:=97) rfl rfl (by kernel_rfl) (by kernel_rfl) (by kernel_rfl) (fun _ _ _ h=>h) (by rfl) hS1 ?_
      try simp only[Act.put,sA',sZ',sS']
      refine takeU (i:=9) (d:=98) rfl rfl (by kernel_rfl) (by kernel_rfl) (by kernel_rfl) (fun _ _ _ h=>h) (by rfl) hS1 ?_
      try simp only[Act.put,sA',sZ',sS']
      refine takeU (i:=10) (d:=99) rfl rfl (by kernel_rfl) (by kernel_rfl) (by kernel_rfl) (fun _ _ _ h=>h) (by rfl) hS1 ?_
      try simp only[Act.put,sA',sZ',sS']
      refine takeU (i:=11) (d:=100) rfl rfl (by kernel_rfl) (by kernel_rfl) (by kernel_rfl) (fun _ _ _ h=>h) (by rfl) hS1 ?_
      try simp only[Act.put,sA',sZ',sS']
      refine takeU (i:=12) (d:=101) rfl rfl (by kernel_rfl) (by kernel_rfl) (by kernel_rfl) (fun _ _ _ h=>h) (by rfl) hS1 ?_
      try simp only[Act.put,sA',sZ',sS']
      refine takeU (i:=13) (d:=102) rfl rfl (by kernel_rfl) (by kernel_rfl) (by kernel_rfl) (fun _ _ _ h=>h) (by rfl) hS1 ?_
      try simp only[Act.put,sA',sZ',sS']
      refine takeU (i:=14) (d:=103) rfl rfl (by kernel_rfl) (by kernel_rfl) (by kernel_rfl) (fun _ _ _ h=>h) (by rfl) hS1 ?_
      try simp only[Act.put,sA',sZ',sS']
      refine takeU (i:=15) (d:=104) rfl rfl (by kernel_rfl) (by kernel_rfl) (by kernel_rfl) (fun _ _ _ h=>h) (by rfl) hS1 ?_
      try simp only[Act.put,sA',sZ',sS']
      refine takeU (i:=16) (d:=105) rfl rfl (by kernel_rfl) (by kernel_rfl) (by kernel_rfl) (fun _ _ _ h=>h) (by rfl) hS1 ?_
      try simp only[Act.put,sA',sZ',sS']
      refine takeU (i:=17) (d:=106) rfl rfl (by kernel_rfl) (by kernel_rfl) (by kernel_rfl) (fun _ _ _ h=>h) (by rfl) hS1 ?_
      try simp only[Act.put,sA',sZ',sS']
      refine takeU (i:=18) (d:=107) rfl rfl (by kernel_rfl) (by kernel_rfl) (by kernel_rfl) (fun _ _ _ h=>h) (by rfl) hS1 ?_
      try simp only[Act.put,sA',sZ',sS']
      refine takeU (i:=19) (d:=108) rfl rfl (by kernel_rfl) (by kernel_rfl) (by kernel_rfl) (fun _ _ _ h=>h) (by rfl) hS1 ?_
      try simp only[Act.put,sA',sZ',sS']
      refine takeU (i:=20) (d:=109) rfl rfl (by kernel_rfl) (by kernel_rfl) (by kernel_rfl) (fun _ _ _ h=>h) (by rfl) hS1 ?_
      try simp only[Act.put,sA',sZ',sS']
      refine takeU (i:=21) (d:=110) rfl rfl (by kernel_rfl) (by kernel_rfl) (by kernel_rfl) (fun _ _ _ h=>h) (by rfl) hS1 ?_
      try simp only[Act.put,sA',sZ',sS']
      refine takeU (i:=22) (d:=111) rfl rfl (by kernel_rfl) (by kernel_rfl) (by kernel_rfl) (fun _ _ _ h=>h) (by rfl) hS1 ?_
      try simp only[Act.put,sA',sZ',sS']
      refine takeU (i:=23) (d:=112) rfl rfl (by kernel_rfl) (by kernel_rfl) (by kernel_rfl) (fun _ _ _ h=>h) (by rfl) hS1 ?_
      try simp only[Act.put,sA',sZ',sS']
      refine takeU (i:=24) (d:=113) rfl rfl (by kernel_rfl) (by kernel_rfl) (by kernel_rfl) (fun _ _ _ h=>h) (by rfl) hS1 ?_
      try simp only[Act.put,sA',sZ',sS']
      refine takeU (i:=25) (d:=114) rfl rfl (by kernel_rfl) (by kernel_rfl) (by kernel_rfl) (fun _ _ _ h=>h) (by rfl) hS1 ?_
      try simp only[Act.put,sA',sZ',sS']
      refine takeU (i:=26) (d:=115) rfl rfl (by kernel_rfl) (by kernel_rfl) (by kernel_rfl) (fun _ _ _ h=>h) (by rfl) hS1 ?_
      try simp only[Act.put,sA',sZ',sS']
      refine takeU (i:=27) (d:=116) rfl rfl (by kernel_rfl) (by kernel_rfl) (by kernel_rfl) (fun _ _ _ h=>h) (by rfl) hS1 ?_
      try simp only[Act.put,sA',sZ',sS']
      refine takeS (i:=28) (d:=117) (v:=.bool false) rfl rfl rfl (by kernel_rfl) (by kernel_rfl) (by kernel_rfl) (fun _ _ _ h=>h) (fun w' h=>by go_simp) hS1 ?_
      try simp only[Act.put,sA',sZ',sS']
      refine wpAnyH_done (by kernel_rfl) ?_ _;obtain⟨y1,hyy⟩:∃y,wr.drew=y:=⟨_,rfl⟩;rw[hyy]at hS1⊢;clear hyy;clear e1 e7
      have HNX:Hid (∀j,j<i+1→m.brNo j=0):=hd' (fun j hj=>by
       rcases Nat.lt_or_ge j i with h | h
       ·exact HI.out.2 j h
       ·obtain rfl:j=i:=by omega
        exact HB0.out)
      have HTY:=hd' (HI.out.1.trans (hS1.mono HI.out.1.size));clear hS1;go_wp2_with fail;go_roundw
      case rel=>exact⟨i+1,by omega,by go_num,hd' ⟨HTY.out,HNX.out⟩⟩
      case measure=>simp[intOf];omega
    ·obtain rfl:n=i:=by omega
     have e1:((n:Int)<(n:Int))=False:=by simp
     have HBRL:Hid (∀j,j<m.sigs.length→m.brNo j=0):=hd' (by rw[←HN.out];exact HI.out.2);have HT5:=hd' HI.out.1;clear HI;go_wp2_with fail;clear e1
     go_loopw [9] (fun i wr=>∃k:Nat,k≤n∧i= .int .i64 (k:Int)∧Hid (Below w2.heap.size w2 wr∧∀j,j<k→m.meetNo j=0)) (fun i _=>n-(intOf i).toNat)
     case atStart=>exact⟨0,by omega,rfl,hd' ⟨HT5.out,fun j h=>by omega⟩⟩
     case round=>
      obtain⟨i,hi,rfl,HI⟩:=hrel;clear HT5
      by_cases hlt:i<n
      ·have hx:m.sigs[i]? =some (m.sigs[i]'(by have:=HN.out;omega)):=List.getElem?_eq_getElem _
       generalize m.sigs[i]'(by have:=HN.out;omega)=s at hx;obtain⟨b1,o1,a1,k1,c1,rfl,hl1,hrow,hto,hk1⟩:=HS.out.get hx;have HBW0:Hid (Below w.heap.size w wr):=hd' (HB.out.trans (HI.out.1.mono HB.out.size));have hrr:=cells_below hrow HBW0.out hl1;have hlr:b1<wr.heap.size:=Nat.lt_of_lt_of_le hl1 HBW0.out.size;have HSW:=hd' (HM.out.sigs s (List.mem_of_getElem? hx));have HX:=hd' hx;have HROW:=hd' hrow;have HLR:=hd' hlr
       have q0:(0:Int)≤(i:Int):=by omega
       have q1:(i:Int)<n:=by omega
       clear hx hto
       have e1:((i:Int)<(n:Int))=True:=by simp;omega
       have HB0W:=hd' HI.out.1;clear hrow hrr hlr HLR HBW0;go_wp2_with fail;clear e1
       go_loopw [10] (fun kk wr=>∃q:Nat,q≤i∧kk= .int .i64 (q:Int)∧Hid (Below w2.heap.size w2 wr∧∀j t,j<q→m.sigs[j]? =some t→B.meets t s=false)) (fun kk _=>i-(intOf kk).toNat)
       case atStart=>exact⟨0,by omega,rfl,hd' ⟨HB0W.out,fun j t h=>by omega⟩⟩
       case round=>
        obtain⟨q,hq,rfl,HK⟩:=hrel;clear HB0W
        by_cases hqi:q<i
        ·have e2:((q:Int)<(i:Int))=True:=by simp;omega
         have HQI:=hd' hqi;have hy:m.sigs[q]? =some (m.sigs[q]'(by have:=HN.out;omega)):=List.getElem?_eq_getElem _;generalize m.sigs[q]'(by have:=HN.out;omega)=t at hy;obtain⟨b2,o2,a2,k2,c2,e,hl2,hrow2,_,_⟩:=HS.out.get hy;injection e with e;injection e with e5 e6 _;subst e5 e6;have HBWK:Hid (Below w.heap.size w wr):=hd' (HB.out.trans (HK.out.1.mono HB.out.size));have HRS:=hd' (cells_below HROW.out HBWK.out hl1);have HRT:=hd' (cells_below hrow2 HBWK.out hl1);have HLR:Hid (b1<wr.heap.size):=hd' (Nat.lt_of_lt_of_le hl1 HBWK.out.size);have HY:=hd' hy;have hps:=alone_place (sigNo_alone HX.out (HSIG.out i (by omega)));have hpt:=alone_place (sigNo_alone hy (HSIG.out q (by omega)))
         have htg:=fun wz=>together_any t s (.slice a2 k2 c2) (.slice a1 k1 c1) wz
         have hsh:=fun wz=>share_any t s (.slice a2 k2 c2) (.slice a1 k1 c1) wz hpt hps
         have hme:=meets_eq t s
         have q2:(0:Int)≤(q:Int):=by omega
         have q3:(q:Int)<n:=by omega
         clear hy hl2 hrow2 hps hpt
         cases hg:togB t s with
         | false=>
          rw[hg]at htg hme;rw[Bool.false_and]at hme;have HTG:=hd' htg;have HME:=hd' hme;clear htg hsh hme hg
          go_upto_region 30 with fail
          refine wp_region_held_drew (S:=Below wr.heap.size wr) (by kernel_rfl) (Below.refl _ _).drew (fun hS1=> ?_);refine takeS (i:=0) (d:=135) (v:=.slice (some ⟨b1,o1,none⟩) n cap) rfl rfl rfl (by kernel_rfl) (by kernel_rfl) (by kernel_rfl) (fun _ _ _ h=>h) (fun w' h=>by go_simp) hS1 ?_
          try simp only[Act.put,sA',sZ',sS']
          refine takeS (i:=1) (d:=136) (v:=.int .i64 (q:Int)) rfl rfl rfl (by kernel_rfl) (by kernel_rfl) (by kernel_rfl) (fun _ _ _ h=>h) (fun w' h=>by go_simp) hS1 ?_
          try simp only[Act.put,sA',sZ',sS']
          refine takeS (i:=2) (d:=137) (v:=.pointer (some ⟨b1,o1+q*19,none⟩)) rfl rfl rfl (by kernel_rfl) (by kernel_rfl) (by kernel_rfl) (fun _ _ _ h=>h) (fun w' h=>by go_simp) hS1 ?_
          try simp only[Act.put,sA',sZ',sS']
          refine takeM (i:=3) (d:=138) 71 (.tmp 137) b1 (o1+q*19) (sigC t (.slice a2 k2 c2)) _ rfl rfl rfl rfl (by rfl) Tryz.underlying71 rfl (by rw[infoN71];rfl) (by kernel_rfl) (by kernel_rfl) (by kernel_rfl) (fun _ _ _ h=>h) (fun w' h=>cells_below HRT.out h HLR.out) hS1 ?_
          try simp only[Act.put,sA',sZ',sS']
          refine takeS (i:=4) (d:=139) (v:=.slice (some ⟨b1,o1,none⟩) n cap) rfl rfl rfl (by kernel_rfl) (by kernel_rfl) (by kernel_rfl) (fun _ _ _ h=>h) (fun w' h=>by go_simp) hS1 ?_
          try simp only[Act.put,sA',sZ',sS']
          refine takeS (i:=5) (d:=140) (v:=.int .i64 (i:Int)) rfl rfl rfl (by kernel_rfl) (by kernel_rfl) (by kernel_rfl) (fun _ _ _ h=>h) (fun w' h=>by go_simp) hS1 ?_
          try simp only[Act.put,sA',sZ',sS']
          refine takeS (i:=6) (d:=141) (v:=.pointer (some ⟨b1,o1+i*19,none⟩)) rfl rfl rfl (by kernel_rfl) (by kernel_rfl) (by kernel_rfl) (fun _ _ _ h=>h) (fun w' h=>by go_simp) hS1 ?_
          try simp only[Act.put,sA',sZ',sS']
          refine takeM (i:=7) (d:=142) 71 (.tmp 141) b1 (o1+i*19) (sigC s (.slice a1 k1 c1)) _ rfl rfl rfl rfl (by rfl) Tryz.underlying71 rfl (by rw[infoN71];rfl) (by kernel_rfl) (by kernel_rfl) (by kernel_rfl) (fun _ _ _ h=>h) (fun w' h=>cells_below HRS.out h HLR.out) hS1 ?_
          try simp only[Act.put,sA',sZ',sS']
          refine wpAnyH_ready (rs:=[8]) (by kernel_rfl) (by simp) ?_;refine AllReadyH.cons rfl (fun K hK=> ?_) AllReadyH.nil;go_simp;refine(HTG.out _).mono ?_;rintro e y1 ⟨rfl,hby⟩;have hS2:=hS1.trans (hby.mono hS1.size);refine hK.out _ _ hS2 (fun hS3=> ?_);clear hK K hS3
          try simp only[Act.put,List.getElem_toArray,List.getElem_cons_succ,List.getElem_cons_zero,sA',sZ',sS']
          refine takeS (i:=9) (d:=144) (v:=.bool false) rfl rfl rfl (by kernel_rfl) (by kernel_rfl) (by kernel_rfl) (fun _ _ _ h=>h) (fun w' h=>by go_simp) hS2 ?_
          try simp only[Act.put,sA',sZ',sS']
          refine takeU (i:=10) (d:=145) rfl rfl (by kernel_rfl) (by kernel_rfl) (by kernel_rfl) (fun _ _ _ h=>h) (by rfl) hS2 ?_
          try simp only[Act.put,sA',sZ',sS']
          refine takeU (i:=11) (d:=146) rfl rfl (by kernel_rfl) (by kernel_rfl) (by kernel_rfl) (fun _ _ _ h=>h) (by rfl) hS2 ?_
          try simp only[Act.put,sA',sZ',sS']
          refine takeU (i:=12) (d:=147) rfl rfl (by kernel_rfl) (by kernel_rfl) (by kernel_rfl) (fun _ _ _ h=>h) (by rfl) hS2 ?_
          try simp only[Act.put,sA',sZ',sS']
          refine takeU (i:=13) (d:=148) rfl rfl (by kernel_rfl) (by kernel_rfl) (by kernel_rfl) (fun _ _ _ h=>h) (by rfl) hS2 ?_
          try simp only[Act.put,sA',sZ',sS']
          refine takeU (i:=14) (d:=149) rfl rfl (by kernel_rfl) (by kernel_rfl) (by kernel_rfl) (fun _ _ _ h=>h) (by rfl) hS2 ?_
          try simp only[Act.put,sA',sZ',sS']
          refine takeU (i:=15) (d:=150) rfl rfl (by kernel_rfl) (by kernel_rfl) (by kernel_rfl) (fun _ _ _ h=>h) (by rfl) hS2 ?_
          try simp only[Act.put,sA',sZ',sS']
          refine takeU (i:=16) (d:=151) rfl rfl (by kernel_rfl) (by kernel_rfl) (by kernel_rfl) (fun _ _ _ h=>h) (by rfl) hS2 ?_
          try simp only[Act.put,sA',sZ',sS']
          refine takeU (i:=17) (d:=152) rfl rfl (by kernel_rfl) (by kernel_rfl) (by kernel_rfl) (fun _ _ _ h=>h) (by rfl) hS2 ?_
          try simp only[Act.put,sA',sZ',sS']
          refine takeU (i:=18) (d:=153) rfl rfl (by kernel_rfl) (by kernel_rfl) (by kernel_rfl) (fun _ _ _ h=>h) (by rfl) hS2 ?_
          try simp only[Act.put,sA',sZ',sS']
          refine takeS (i:=19) (d:=154) (v:=.bool false) rfl rfl rfl (by kernel_rfl) (by kernel_rfl) (by kernel_rfl) (fun _ _ _ h=>h) (fun w' h=>by go_simp) hS2 ?_
          try simp only[Act.put,sA',sZ',sS']
          refine wpAnyH_done (by kernel_rfl) ?_ _;clear hS1 hby;clear e2
          have HK2:Hid (∀j u,j<q+1→m.sigs[j]? =some u→B.meets u s=false):=hd' (fun j u hj hu=>by
           rcases Nat.lt_or_ge j q with h | h
           ·exact HK.out.2 j u h hu
           ·obtain rfl:j=q:=by omega
            rw[HY.out]at hu;obtain rfl:=Option.some.inj hu
            exact HME.out)
          have HTY:=hd' (HK.out.1.trans (hS2.mono HK.out.1.size));clear hS2;go_wp2_with fail;go_roundw
          case rel=>exact⟨q+1,by omega,by go_num,hd' ⟨HTY.out,HK2.out⟩⟩
          case measure=>simp[intOf];omega
         | true=>
          rw[hg]at htg hme;rw[Bool.true_and]at hme;have HTG:=hd' htg
          cases hh:shareB t s with
          | false=>
           rw[hh]at hsh hme;have HSH:=hd' hsh;have HME:=hd' hme;clear htg hsh hme hg hh
           go_upto_region 30 with fail
           refine wp_region_held_drew (S:=Below wr.heap.size wr) (by kernel_rfl) (Below.refl _ _).drew (fun hS1=> ?_);refine takeS (i:=0) (d:=135) (v:=.slice (some ⟨b1,o1,none⟩) n cap) rfl rfl rfl (by kernel_rfl) (by kernel_rfl) (by kernel_rfl) (fun _ _ _ h=>h) (fun w' h=>by go_simp) hS1 ?_
           try simp only[Act.put,sA',sZ',sS']
           refine takeS (i:=1) (d:=136) (v:=.int .i64 (q:Int)) rfl rfl rfl (by kernel_rfl) (by kernel_rfl) (by kernel_rfl) (fun _ _ _ h=>h) (fun w' h=>by go_simp) hS1 ?_
           try simp only[Act.put,sA',sZ',sS']
           refine takeS (i:=2) (d:=137) (v:=.pointer (some ⟨b1,o1+q*19,none⟩)) rfl rfl rfl (by kernel_rfl) (by kernel_rfl) (by kernel_rfl) (fun _ _ _ h=>h) (fun w' h=>by go_simp) hS1 ?_
           try simp only[Act.put,sA',sZ',sS']
           refine takeM (i:=3) (d:=138) 71 (.tmp 137) b1 (o1+q*19) (sigC t (.slice a2 k2 c2)) _ rfl rfl rfl rfl (by rfl) Tryz.underlying71 rfl (by rw[infoN71];rfl) (by kernel_rfl) (by kernel_rfl) (by kernel_rfl) (fun _ _ _ h=>h) (fun w' h=>cells_below HRT.out h HLR.out) hS1 ?_
           try simp only[Act.put,sA',sZ',sS']
           refine takeS (i:=4) (d:=139) (v:=.slice (some ⟨b1,o1,none⟩) n cap) rfl rfl rfl (by kernel_rfl) (by kernel_rfl) (by kernel_rfl) (fun _ _ _ h=>h) (fun w' h=>by go_simp) hS1 ?_
           try simp only[Act.put,sA',sZ',sS']
           refine takeS (i:=5) (d:=140) (v:=.int .i64 (i:Int)) rfl rfl rfl (by kernel_rfl) (by kernel_rfl) (by kernel_rfl) (fun _ _ _ h=>h) (fun w' h=>by go_simp) hS1 ?_
           try simp only[Act.put,sA',sZ',sS']
           refine takeS (i:=6) (d:=141) (v:=.pointer (some ⟨b1,o1+i*19,none⟩)) rfl rfl rfl (by kernel_rfl) (by kernel_rfl) (by kernel_rfl) (fun _ _ _ h=>h) (fun w' h=>by go_simp) hS1 ?_
           try simp only[Act.put,sA',sZ',sS']
           refine takeM (i:=7) (d:=142) 71 (.tmp 141) b1 (o1+i*19) (sigC s (.slice a1 k1 c1)) _ rfl rfl rfl rfl (by rfl) Tryz.underlying71 rfl (by rw[infoN71];rfl) (by kernel_rfl) (by kernel_rfl) (by kernel_rfl) (fun _ _ _ h=>h) (fun w' h=>cells_below HRS.out h HLR.out) hS1 ?_
           try simp only[Act.put,sA',sZ',sS']
           refine wpAnyH_ready (rs:=[8]) (by kernel_rfl) (by simp) ?_;refine AllReadyH.cons rfl (fun K hK=> ?_) AllReadyH.nil;go_simp;refine(HTG.out _).mono ?_;rintro e y1 ⟨rfl,hby⟩;have hS2:=hS1.trans (hby.mono hS1.size);refine hK.out _ _ hS2 (fun hS3=> ?_);clear hK K hS3
           try simp only[Act.put,List.getElem_toArray,List.getElem_cons_succ,List.getElem_cons_zero,sA',sZ',sS']
           refine takeS (i:=9) (d:=144) (v:=.bool true) rfl rfl rfl (by kernel_rfl) (by kernel_rfl) (by kernel_rfl) (fun _ _ _ h=>h) (fun w' h=>by go_simp) hS2 ?_
           try simp only[Act.put,sA',sZ',sS']
           refine takeW (i:=10) (d:=145) (v:=.slice (some ⟨b1,o1,none⟩) n cap) rfl rfl (by kernel_rfl) (by kernel_rfl) (by kernel_rfl) (fun _ _ _ h=>h) (by rfl) (fun w' h=>by go_simp) hS2 ?_
           try simp only[Act.put,sA',sZ',sS']
           refine takeW (i:=11) (d:=146) (v:=.int .i64 (q:Int)) rfl rfl (by kernel_rfl) (by kernel_rfl) (by kernel_rfl) (fun _ _ _ h=>h) (by rfl) (fun w' h=>by go_simp) hS2 ?_
           try simp only[Act.put,sA',sZ',sS']
           refine takeW (i:=12) (d:=147) (v:=.pointer (some ⟨b1,o1+q*19,none⟩)) rfl rfl (by kernel_rfl) (by kernel_rfl) (by kernel_rfl) (fun _ _ _ h=>h) (by rfl) (fun w' h=>by go_simp) hS2 ?_
           try simp only[Act.put,sA',sZ',sS']
           refine takeMW (i:=13) (d:=148) 71 (.tmp 147) b1 (o1+q*19) (sigC t (.slice a2 k2 c2)) _ rfl rfl (by rfl) rfl (by rfl) Tryz.underlying71 rfl (by rw[infoN71];rfl) (by kernel_rfl) (by kernel_rfl) (by kernel_rfl) (fun _ _ _ h=>h) (fun w' h=>cells_below HRT.out h HLR.out) hS2 ?_
           try simp only[Act.put,sA',sZ',sS']
           refine takeW (i:=14) (d:=149) (v:=.slice (some ⟨b1,o1,none⟩) n cap) rfl rfl (by kernel_rfl) (by kernel_rfl) (by kernel_rfl) (fun _ _ _ h=>h) (by rfl) (fun w' h=>by go_simp) hS2 ?_
           try simp only[Act.put,sA',sZ',sS']
           refine takeW (i:=15) (d:=150) (v:=.int .i64 (i:Int)) rfl rfl (by kernel_rfl) (by kernel_rfl) (by kernel_rfl) (fun _ _ _ h=>h) (by rfl) (fun w' h=>by go_simp) hS2 ?_
           try simp only[Act.put,sA',sZ',sS']
           refine takeW (i:=16) (d:=151) (v:=.pointer (some ⟨b1,o1+i*19,none⟩)) rfl rfl (by kernel_rfl) (by kernel_rfl) (by kernel_rfl) (fun _ _ _ h=>h) (by rfl) (fun w' h=>by go_simp) hS2 ?_
           try simp only[Act.put,sA',sZ',sS']
           refine takeMW (i:=17) (d:=152) 71 (.tmp 151) b1 (o1+i*19) (sigC s (.slice a1 k1 c1)) _ rfl rfl (by rfl) rfl (by rfl) Tryz.underlying71 rfl (by rw[infoN71];rfl) (by kernel_rfl) (by kernel_rfl) (by kernel_rfl) (fun _ _ _ h=>h) (fun w' h=>cells_below HRS.out h HLR.out) hS2 ?_
           try simp only[Act.put,sA',sZ',sS']
           refine wpAnyH_ready (rs:=[18]) (by kernel_rfl) (by simp) ?_;refine AllReadyH.cons rfl (fun K hK=> ?_) AllReadyH.nil;go_simp;refine(HSH.out _).mono ?_;rintro e y2 ⟨rfl,hby2⟩;have hS4:=hS2.trans (hby2.mono hS2.size);refine hK.out _ _ hS4 (fun hS3=> ?_);clear hK K hS3
           try simp only[Act.put,List.getElem_toArray,List.getElem_cons_succ,List.getElem_cons_zero,sA',sZ',sS']
           refine takeS (i:=19) (d:=154) (v:=.bool false) rfl rfl rfl (by kernel_rfl) (by kernel_rfl) (by kernel_rfl) (fun _ _ _ h=>h) (fun w' h=>by go_simp) hS4 ?_
           try simp only[Act.put,sA',sZ',sS']
           refine wpAnyH_done (by kernel_rfl) ?_ _;clear hS1 hS2 hby hby2;clear e2
           have HK2:Hid (∀j u,j<q+1→m.sigs[j]? =some u→B.meets u s=false):=hd' (fun j u hj hu=>by
            rcases Nat.lt_or_ge j q with h | h
            ·exact HK.out.2 j u h hu
            ·obtain rfl:j=q:=by omega
             rw[HY.out]at hu;obtain rfl:=Option.some.inj hu
             exact HME.out)
           have HTY:=hd' (HK.out.1.trans (hS4.mono HK.out.1.size));clear hS4;go_wp2_with fail;go_roundw
           case rel=>exact⟨q+1,by omega,by go_num,hd' ⟨HTY.out,HK2.out⟩⟩
           case measure=>simp[intOf];omega
          | true=>
           rw[hh]at hsh hme;have HSH:=hd' hsh;have HME:=hd' hme;clear htg hsh hme hg hh
           go_upto_region 30 with fail
           refine wp_region_held_drew (S:=Below wr.heap.size wr) (by kernel_rfl) (Below.refl _ _).drew (fun hS1=> ?_);refine takeS (i:=0) (d:=135) (v:=.slice (some ⟨b1,o1,none⟩) n cap) rfl rfl rfl (by kernel_rfl) (by kernel_rfl) (by kernel_rfl) (fun _ _ _ h=>h) (fun w' h=>by go_simp) hS1 ?_
           try simp only[Act.put,sA',sZ',sS']
           refine takeS (i:=1) (d:=136) (v:=.int .i64 (q:Int)) rfl rfl rfl (by kernel_rfl) (by kernel_rfl) (by kernel_rfl) (fun _ _ _ h=>h) (fun w' h=>by go_simp) hS1 ?_
           try simp only[Act.put,sA',sZ',sS']
           refine takeS (i:=2) (d:=137) (v:=.pointer (some ⟨b1,o1+q*19,none⟩)) rfl rfl rfl (by kernel_rfl) (by kernel_rfl) (by kernel_rfl) (fun _ _ _ h=>h) (fun w' h=>by go_simp) hS1 ?_
           try simp only[Act.put,sA',sZ',sS']
           refine takeM (i:=3) (d:=138) 71 (.tmp 137) b1 (o1+q*19) (sigC t (.slice a2 k2 c2)) _ rfl rfl rfl rfl (by rfl) Tryz.underlying71 rfl (by rw[infoN71];rfl) (by kernel_rfl) (by kernel_rfl) (by kernel_rfl) (fun _ _ _ h=>h) (fun w' h=>cells_below HRT.out h HLR.out) hS1 ?_
           try simp only[Act.put,sA',sZ',sS']
           refine takeS (i:=4) (d:=139) (v:=.slice (some ⟨b1,o1,none⟩) n cap) rfl rfl rfl (by kernel_rfl) (by kernel_rfl) (by kernel_rfl) (fun _ _ _ h=>h) (fun w' h=>by go_simp) hS1 ?_
           try simp only[Act.put,sA',sZ',sS']
           refine takeS (i:=5) (d:=140) (v:=.int .i64 (i:Int)) rfl rfl rfl (by kernel_rfl) (by kernel_rfl) (by kernel_rfl) (fun _ _ _ h=>h) (fun w' h=>by go_simp) hS1 ?_
           try simp only[Act.put,sA',sZ',sS']
           refine takeS (i:=6) (d:=141) (v:=.pointer (some ⟨b1,o1+i*19,none⟩)) rfl rfl rfl (by kernel_rfl) (by kernel_rfl) (by kernel_rfl) (fun _ _ _ h=>h) (fun w' h=>by go_simp) hS1 ?_
           try simp only[Act.put,sA',sZ',sS']
           refine takeM (i:=7) (d:=142) 71 (.tmp 141) b1 (o1+i*19) (sigC s (.slice a1 k1 c1)) _ rfl rfl rfl rfl (by rfl) Tryz.underlying71 rfl (by rw[infoN71];rfl) (by kernel_rfl) (by kernel_rfl) (by kernel_rfl) (fun _ _ _ h=>h) (fun w' h=>cells_below HRS.out h HLR.out) hS1 ?_
           try simp only[Act.put,sA',sZ',sS']
           refine wpAnyH_ready (rs:=[8]) (by kernel_rfl) (by simp) ?_;refine AllReadyH.cons rfl (fun K hK=> ?_) AllReadyH.nil;go_simp;refine(HTG.out _).mono ?_;rintro e y1 ⟨rfl,hby⟩;have hS2:=hS1.trans (hby.mono hS1.size);refine hK.out _ _ hS2 (fun hS3=> ?_);clear hK K hS3
           try simp only[Act.put,List.getElem_toArray,List.getElem_cons_succ,List.getElem_cons_zero,sA',sZ',sS']
           refine takeS (i:=9) (d:=144) (v:=.bool true) rfl rfl rfl (by kernel_rfl) (by kernel_rfl) (by kernel_rfl) (fun _ _ _ h=>h) (fun w' h=>by go_simp) hS2 ?_
           try simp only[Act.put,sA',sZ',sS']
           refine takeW (i:=10) (d:=145) (v:=.slice (some ⟨b1,o1,none⟩) n cap) rfl rfl (by kernel_rfl) (by kernel_rfl) (by kernel_rfl) (fun _ _ _ h=>h) (by rfl) (fun w' h=>by go_simp) hS2 ?_
           try simp only[Act.put,sA',sZ',sS']
           refine takeW (i:=11) (d:=146) (v:=.int .i64 (q:Int)) rfl rfl (by kernel_rfl) (by kernel_rfl) (by kernel_rfl) (fun _ _ _ h=>h) (by rfl) (fun w' h=>by go_simp) hS2 ?_
           try simp only[Act.put,sA',sZ',sS']
           refine takeW (i:=12) (d:=147) (v:=.pointer (some ⟨b1,o1+q*19,none⟩)) rfl rfl (by kernel_rfl) (by kernel_rfl) (by kernel_rfl) (fun _ _ _ h=>h) (by rfl) (fun w' h=>by go_simp) hS2 ?_
           try simp only[Act.put,sA',sZ',sS']
           refine takeMW (i:=13) (d:=148) 71 (.tmp 147) b1 (o1+q*19) (sigC t (.slice a2 k2 c2)) _ rfl rfl (by rfl) rfl (by rfl) Tryz.underlying71 rfl (by rw[infoN71];rfl) (by kernel_rfl) (by kernel_rfl) (by kernel_rfl) (fun _ _ _ h=>h) (fun w' h=>cells_below HRT.out h HLR.out) hS2 ?_
           try simp only[Act.put,sA',sZ',sS']
           refine takeW (i:=14) (d:=149) (v:=.slice (some ⟨b1,o1,none⟩) n cap) rfl rfl (by kernel_rfl) (by kernel_rfl) (by kernel_rfl) (fun _ _ _ h=>h) (by rfl) (fun w' h=>by go_simp) hS2 ?_
           try simp only[Act.put,sA',sZ',sS']
           refine takeW (i:=15) (d:=150) (v:=.int .i64 (i:Int)) rfl rfl (by kernel_rfl) (by kernel_rfl) (by kernel_rfl) (fun _ _ _ h=>h) (by rfl) (fun w' h=>by go_simp) hS2 ?_
           try simp only[Act.put,sA',sZ',sS']
           refine takeW (i:=16) (d:=151) (v:=.pointer (some ⟨b1,o1+i*19,none⟩)) rfl rfl (by kernel_rfl) (by kernel_rfl) (by kernel_rfl) (fun _ _ _ h=>h) (by rfl) (fun w' h=>by go_simp) hS2 ?_
           try simp only[Act.put,sA',sZ',sS']
           refine takeMW (i:=17) (d:=152) 71 (.tmp 151) b1 (o1+i*19) (sigC s (.slice a1 k1 c1)) _ rfl rfl (by rfl) rfl (by rfl) Tryz.underlying71 rfl (by rw[infoN71];rfl) (by kernel_rfl) (by kernel_rfl) (by kernel_rfl) (fun _ _ _ h=>h) (fun w' h=>cells_below HRS.out h HLR.out) hS2 ?_
           try simp only[Act.put,sA',sZ',sS']
           refine wpAnyH_ready (rs:=[18]) (by kernel_rfl) (by simp) ?_;refine AllReadyH.cons rfl (fun K hK=> ?_) AllReadyH.nil;go_simp;refine(HSH.out _).mono ?_;rintro e y2 ⟨rfl,hby2⟩;have hS4:=hS2.trans (hby2.mono hS2.size);refine hK.out _ _ hS4 (fun hS3=> ?_);clear hK K hS3
           try simp only[Act.put,List.getElem_toArray,List.getElem_cons_succ,List.getElem_cons_zero,sA',sZ',sS']
           refine takeS (i:=19) (d:=154) (v:=.bool true) rfl rfl rfl (by kernel_rfl) (by kernel_rfl) (by kernel_rfl) (fun _ _ _ h=>h) (fun w' h=>by go_simp) hS4 ?_
           try simp only[Act.put,sA',sZ',sS']
           refine wpAnyH_done (by kernel_rfl) ?_ _;clear hS1 hS2 hby hby2;clear e2
           have hme:m.meetNo i≠0:=by
            rw[meetNo_at HX.out,if_pos]
            ·decide
            ·exact List.any_eq_true.2 ⟨t,List.mem_of_getElem? (i:=q) (by rw[List.getElem?_take,if_pos HQI.out];exact HY.out),HME.out⟩
           have HNO:=hd' (B.no_meet HH.out HSIGL.out HBRL.out HX.out HI.out.2 hme);clear hme;have HTY:=hd' (HK.out.1.trans (hS4.mono HK.out.1.size));have hBWY:Below w.heap.size w y2:=HB.out.trans (HTY.out.mono HB.out.size);have j0:y2.cell? ⟨b1,o1+i*19,none⟩=some (.int .i64 s.line):=cells_below HROW.out hBWY hl1 0 _ rfl;have j1:y2.cell? ⟨b1,o1+i*19+1,none⟩=some (.int .i64 s.col):=cells_below HROW.out hBWY hl1 1 _ rfl;have hT:=HTY.out;clear hBWY hS4;go_wp2_with fail;refine(rat_any 17 s.line s.col _).mono ?_;rintro e wz ⟨rfl,hbz⟩;have hTz:Below w2.heap.size w2 wz:=hT.trans (hbz.mono hT.size);have hres:=HRES.out.low hTz HRES.out.blk;have hth:=hres.there;clear hbz
           go_wp2_with (refine wpList_store_mid rfl 36 (.tmp 2) (.tmp 160) rfl w1.heap.size 0 (faultC 17 s.line s.col) rfl rfl (by rw[faultC_size];exact hth) (by rw[infoFa,faultC_size]) (faultC_ones _ _ _) ?_;generalize hwq:World.setCells _ _ _ _=wq)
           have hrx:RC wq w1.heap.size 36 3 (faultC 17 s.line s.col):=by
            rw[←hwq];exact hres.store _ (faultC_size _ _ _)
           have HBX:Hid (Below w.heap.size w wq):=hd' (by
            rw[←hwq]
            exact below_put (HB.out.trans (hTz.mono HB.out.size)) (grownBy_setCells _ _ _ _) HZ.out (Nat.le_trans HB.out.size hTz.size))
           clear hwq;exact bodyPost_ret (v:=.agg (faultC 17 s.line s.col)) (retFault (p:=2) (by kernel_rfl) rfl hrx) rfl ⟨by rw[HNO.out],HBX.out⟩
        ·obtain rfl:i=q:=by omega
         have e2:((i:Int)<(i:Int))=False:=by simp
         have HNX:Hid (∀j,j<i+1→m.meetNo j=0):=hd' (fun j hj=>by
          rcases Nat.lt_or_ge j i with h | h
          ·exact HI.out.2 j h
          ·obtain rfl:j=i:=by omega
           rw[meetNo_at HX.out,if_neg];intro ha;obtain⟨t,ht,hts⟩:=List.any_eq_true.1 ha;obtain⟨r,hr⟩:=List.getElem?_of_mem ht;rw[List.getElem?_take]at hr;split at hr
           ·have:=HK.out.2 r t (by assumption) hr
            rw[this]at hts;cases hts
           ·cases hr)
         have HBK:=hd' HK.out.1;clear HK HI;go_wp2_with fail;go_roundw
         case rel=>exact⟨i+1,by omega,by go_num,hd' ⟨HBK.out,HNX.out⟩⟩
         case measure=>simp[intOf];omega
      ·obtain rfl:n=i:=by omega
       have e1:((n:Int)<(n:Int))=False:=by simp
       have HNO:Hid (m.no=(0,0,0)):=hd' (B.Msg.no_of HH.out HSIGL.out HBRL.out (fun j hj=>HI.out.2 j (by rw[HN.out];exact hj)));have hTz:=HI.out.1;have hres:=HRES.out.low hTz HRES.out.blk;have hth:=hres.there;go_wp2_with (refine wpList_store_mid rfl 36 (.tmp 2) (.tmp 161) rfl w1.heap.size 0 #[.int .i64 0,.int .i64 0,.int .i64 0] rfl rfl hth infoFa (by simp[Value.oneCell']) ?_;generalize hwq:World.setCells _ _ _ _=wq)
       have hrx:RC wq w1.heap.size 36 3 #[.int .i64 0,.int .i64 0,.int .i64 0]:=by
        rw[←hwq];exact hres.store _ rfl
       have HBX:Hid (Below w.heap.size w wq):=hd' (by
        rw[←hwq]
        exact below_put (HB.out.trans (hTz.mono HB.out.size)) (grownBy_setCells _ _ _ _) HZ.out (Nat.le_trans HB.out.size hTz.size))
       clear hwq;exact bodyPost_ret (v:=.agg #[.int .i64 0,.int .i64 0,.int .i64 0]) (retFault (p:=2) (by kernel_rfl) rfl hrx) rfl ⟨by rw[HNO.out];rfl,HBX.out⟩
end Code
end Go.Proofs.YtljhklblbafjkaaGreatDoor
