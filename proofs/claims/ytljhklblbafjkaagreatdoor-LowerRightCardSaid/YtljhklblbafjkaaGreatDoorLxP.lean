/- Package lower: the lines that lay a signal. -/
import Derived.Test.YtljhklblbafjkaaGreatDoorLwE
import Derived.Test.YtljhklblbafjkaaGreatDoorLwU
open Go.Lib renaming hid→hd'
open Nat renaming le_refl→lR'
open List renaming setIfInBounds_toArray→sA',set_cons_zero→sZ',set_cons_succ→sS'
namespace Go.Proofs.YtljhklblbafjkaaGreatDoor
open Go.RowKit
namespace Code
attribute [local go_sem ↓] Go.wp_at_zero Go.wp_at_succ
def LayOut(ps:List B.Ins)(w:World)(e:Ending)(w':World):Prop:=∃a c,e= .returned (.tuple #[.slice a ps.length c,.nilIface])∧OwnP w' w.heap.size a ps.length c ps∧Below w.heap.size w w'
theorem flatI_snoc(f:Nat→Nat→List B.Ins)(l:List Nat)(k:Nat)(b:Nat)(h:l[k]? =some b):B.flatI f 0 (l.take (k+1))=B.flatI f 0 (l.take k)++f k b:=by
 rw[List.take_add_one,h]
 show B.flatI f 0 (l.take k++[b])=_
 rw[B.flatI_append];have hlt:=(List.getElem?_eq_some_iff.1 h).1;rw[List.length_take,Nat.min_eq_left (by omega),Nat.zero_add]
 show _++(f k b++[])=_
 rw[List.append_nil]
set_option maxRecDepth 100000 in
set_option maxHeartbeats 25600000 in
theorem laid_any(i:Nat)(s:B.Sig)(tv:Value)(w:World)(hs:SigWf s)(hp:s.placeNo=0)(hi:i≤1000):
    Calls Tryz.prog 40 #[.int .i64 (i:Int),.agg (sigC s tv)] w (LayOut (s.layI i) w):=by
 have hrow:=RC.new (sigC s tv) 71 w (n:=19) rfl rfl;have hbel:Below w.heap.size w (w.alloc (.cells (sigC s tv) 71)):=(Below.refl _ _).alloc (lR' _) _;obtain⟨w1,hw1⟩:∃w1,w.alloc (.cells (sigC s tv) 71)=w1:=⟨_,rfl⟩;rw[hw1]at hrow hbel
 have hz1:w.heap.size<w1.heap.size:=by rw[←hw1];simp
 have hbits:=(bits_any s tv hs w1).mono (fun e w' (h:BitsAny s w1 e w')=>h.1 hp);have hrr:=RC.range hrow;have hpl:=B.Sig.place_ok hp;have HROW:=hd' hrow;have HB:=hd' hbel;have HZ:=hd' hz1;have HPL:=hd' hpl;clear hrow hbel hz1 hs hp hpl;go_enter Tryz.func40,Tryz.ntmps40
 go_upto_region 1 with fail
 try rw[hw1]
 clear hw1
 go_upto_region 4 with(first
  | refine wpList_load_mid (by rfl) 71 _ (by rfl) w.heap.size 0 (by rfl) (sigC s tv).toList _ hrr Tryz.underlying71 (by rfl) (by rw[infoN71];rfl) ?_
  | (go_at_call 55;refine hbits.mono ?_;rintro e w2 ⟨g,cap,rfl,hown,hb2⟩))
 have hrow2:=HROW.out.below hb2 HZ.out;have HBW2:=hd' (HB.out.trans (hb2.mono HB.out.size));have hlist2:=ListAt.ofOwn hown.own;have hlines:=lines_any w2;have hsz2:=hb2.size
 have hg2:g<w2.heap.size:=by
  rcases hown.form with⟨h0,_⟩ | ⟨g',e,_,h⟩
  ·cases h0
  ·cases e;exact h
 obtain⟨L,hL⟩:∃L,w2.heap.size=L:=⟨_,rfl⟩;unfold LinesOut putV at hlines;rw[hL]at hlines hg2;have HROW2:=hd' hrow2;have HLIST2:=hd' hlist2;have HLW:Hid (w.heap.size<L):=hd' (by rw[←hL];have:=HZ.out;omega);have HL2:=hd' hL;have HG2:=hd' hg2;clear hrow2 hown hb2 hsz2 hg2 hlist2 hL hbits hrr HROW HB HZ
 go_upto_region 5 with(go_at_call 23;refine hlines.mono ?_;rintro e w3 ⟨rfl,hln,hb3⟩)
 have hrow3:RC w3 w.heap.size 71 19 (sigC s tv):=HROW2.out.below hb3 HLW.out
 have hX6:∀w':World,(∀b,b<L→w'.heap[b]? =w3.heap[b]?)→w'.cell? ⟨w.heap.size,6,none⟩=some (.int .i64 s.size):=fun w' h=>(RC.of hrow3 (h _ HLW.out)).cell (j:=6) rfl
 have hX8:∀w':World,(∀b,b<L→w'.heap[b]? =w3.heap[b]?)→w'.cell? ⟨w.heap.size,8,none⟩=some (.bool s.signed):=fun w' h=>(RC.of hrow3 (h _ HLW.out)).cell (j:=8) rfl
 have HX6:=hd' hX6;have HX8:=hd' hX8;have HLN:=hd' hln;have HB3:=hd' hb3;clear hrow3 hX6 hX8 hln hb3 hlines HROW2;refine wp_region_held_drew (S:=fun w'=>∀b,b<L→w'.heap[b]? =w3.heap[b]?) (by kernel_rfl) (fun b _=>rfl) (fun hS1=> ?_);refine takeS (i:=0) (d:=24) (v:=.func (.func 54) #[] #[.pointer (some ⟨L,0,none⟩)]) rfl rfl rfl (by kernel_rfl) (by kernel_rfl) (by kernel_rfl) (fun _ _ _ h=>h) (fun w' h=>by go_simp) hS1 ?_;simp only[Act.put,sA',sZ',sS'];refine takeS (i:=1) (d:=25) (v:=.int .i64 (i:Int)) rfl rfl rfl (by kernel_rfl) (by kernel_rfl) (by kernel_rfl) (fun _ _ _ h=>h) (fun w' h=>by go_simp) hS1 ?_;simp only[Act.put,sA',sZ',sS'];refine takeS (i:=2) (d:=26) (v:=.agg #[.int .i64 15,.int .i64 1,.int .i64 (i:Int),.int .i64 0,.int .u64 0]) rfl rfl rfl (by kernel_rfl) (by kernel_rfl) (by kernel_rfl) (fun _ _ _ h=>h) (fun w' h=>by go_simp) hS1 ?_
 simp only[Act.put,sA',sZ',sS'];refine takeS (i:=3) (d:=27) (v:=.int .i64 (i:Int)) rfl rfl rfl (by kernel_rfl) (by kernel_rfl) (by kernel_rfl) (fun _ _ _ h=>h) (fun w' h=>by go_simp) hS1 ?_;simp only[Act.put,sA',sZ',sS'];refine takeS (i:=4) (d:=28) (v:=.pointer (some ⟨w.heap.size,6,none⟩)) rfl rfl rfl (by kernel_rfl) (by kernel_rfl) (by kernel_rfl) (fun _ _ _ h=>h) (fun w' h=>by go_simp) hS1 ?_;simp only[Act.put,sA',sZ',sS'];refine takeS (i:=5) (d:=29) (v:=.int .i64 s.size) rfl rfl rfl (by kernel_rfl) (by kernel_rfl) (by kernel_rfl) (fun _ _ _ h=>h) (fun w' h=>by(have c:=HX6.out w' h;go_simp)) hS1 ?_;simp only[Act.put,sA',sZ',sS'];refine takeS (i:=6) (d:=30) (v:=.pointer (some ⟨w.heap.size,8,none⟩)) rfl rfl rfl (by kernel_rfl) (by kernel_rfl) (by kernel_rfl) (fun _ _ _ h=>h) (fun w' h=>by go_simp) hS1 ?_;simp only[Act.put,sA',sZ',sS']
 refine takeS (i:=7) (d:=31) (v:=.bool s.signed) rfl rfl rfl (by kernel_rfl) (by kernel_rfl) (by kernel_rfl) (fun _ _ _ h=>h) (fun w' h=>by(have c:=HX8.out w' h;go_simp)) hS1 ?_;simp only[Act.put,sA',sZ',sS'];refine wpAnyH_ready (rs:=[8]) (by kernel_rfl) (by simp) ?_;refine AllReadyH.cons rfl (fun K hK=> ?_) AllReadyH.nil;go_simp;refine(flag_any s.signed _).mono ?_;rintro e v1 ⟨rfl,rfl⟩;refine hK.out _ _ hS1 (fun hS2=> ?_);clear hK K;obtain⟨fl,hfl⟩:∃fl:Int,(if s.signed=true then(1:Int)else 0)=fl:=⟨_,rfl⟩;rw[hfl];have HFL:=hd' hfl;clear hfl;refine takeS (i:=9) (d:=33) (v:=.agg #[.int .i64 17,.int .i64 1,.int .i64 (i:Int),.int .i64 s.size,.int .u64 fl]) rfl rfl rfl (by kernel_rfl) (by kernel_rfl) (by kernel_rfl) (fun _ _ _ h=>h) (fun w' h=>by go_simp) hS2 ?_;simp only[Act.put,sA',sZ',sS'];refine wpAnyH_ready (rs:=[10]) (by kernel_rfl) (by simp) ?_
 refine AllReadyH.cons rfl (fun K hK=> ?_) AllReadyH.nil;go_simp;have hbd:Below L w3 w3.drew:=(Below.refl _ _).drew;have hlnd:LnAt w3.drew L none 0 0 []:=HLN.out.below (Below.refl _ _).drew;have hbe:Below w3.drew.heap.size w3.drew (w3.drew.alloc (.cells #[.int .i64 15,.int .i64 1,.int .i64 (i:Int),.int .i64 0,.int .u64 0,.int .i64 17,.int .i64 1,.int .i64 (i:Int),.int .i64 s.size,.int .u64 fl] 74)):=(Below.refl _ _).alloc (lR' _) _;have hpe:=progAt_new [⟨15,1,(i:Int),0,0⟩,⟨17,1,(i:Int),s.size,fl⟩] #[.int .i64 15,.int .i64 1,.int .i64 (i:Int),.int .i64 0,.int .u64 0,.int .i64 17,.int .i64 1,.int .i64 (i:Int),.int .i64 s.size,.int .u64 fl] 2 74 w3.drew rfl rfl;have hlne:=hlnd.below hbe;have hze:L≤w3.drew.heap.size:=Nat.le_of_lt hlnd.lt;refine hK.out _ _ (fun b hb=>hbe.block b (by have:=hlnd.lt;omega)) (fun hS3=> ?_);clear hK K
 refine wpAnyH_ready (rs:=[11]) (by kernel_rfl) (by simp) ?_;refine AllReadyH.cons rfl (fun K hK=> ?_) AllReadyH.nil;go_simp;have hput:=put_any L none 0 0 [] (some ⟨w3.drew.heap.size,0,none⟩) 2 2 _ _ hlne hpe (fun h=>absurd h (by simp)) (by decide);refine hput.mono ?_;intro e v3 hh;obtain⟨ao3,cap3,rfl,hln3,hg3⟩:=hh.grew;have hb3':Below L w3 v3:=hbd.trans ((hbe.mono hze).trans hg3.bel);refine hK.out _ _ (fun b hb=>hb3'.block b hb) (fun hS4=> ?_);clear hK K;refine wpAnyH_done (by kernel_rfl) ?_ _;have HLN3:=hd' hln3;have HB33:=hd' (HB3.out.trans hb3');clear hS1 hS2 hS3 hS4 hbd hlnd hbe hpe hlne hze hput hh hln3 hg3 hb3'
 have hnb:s.bits.length≤64:=by rw[s.bits_length];have:=HPL.out.1;omega
 obtain⟨N,hN⟩:∃N,s.bits.length=N:=⟨_,rfl⟩;have HN:=hd' hN;rw[hN]at HLIST2 hnb⊢;clear hN;go_wp2_with fail
 go_loopw [38] (fun x wr=>∃k n cap ao,k≤N∧x= .int .i64 (k:Nat)∧n≤2+3*k∧Below L w2 wr∧Hid (LnAt wr L ao n cap ([⟨15,1,(i:Int),0,0⟩,⟨17,1,(i:Int),s.size,fl⟩]++B.flatI B.layBit 0 (s.bits.take k)))) (fun x _=>N-(intOf x).toNat)
 case atStart=>exact⟨0,2,cap3,ao3,by omega,rfl,by omega,HB33.out,hd' (by rw[List.take_zero];exact HLN3.out)⟩
 case round=>
  obtain⟨k,n,cn,ao,hk,rfl,hn,hbr,HLR⟩:=hrel;have HBR:=hd' hbr;have HNK:=hd' hn;clear HLN3 HB33 hbr hn
  by_cases hlt:k<N
  ·have hx:s.bits[k]? =some (s.bits[k]'(by rw[HN.out];exact hlt)):=List.getElem?_eq_getElem _
   generalize s.bits[k]'(by rw[HN.out];exact hlt)=b at hx;obtain⟨b1,o1,e1,hl1,hc1⟩:=HLIST2.out.at_ k (natV b) (by rw[List.getElem?_map,hx];rfl);cases e1;replace hc1:=(HBR.out.cell (p:=⟨g,0+k,none⟩) HG2.out).trans hc1;unfold natV at hc1;rw[Nat.zero_add]at hc1;have hb63:b≤63:=HPL.out.2.2 b (List.mem_of_getElem? hx);have HX:=hd' (flatI_snoc B.layBit s.bits k b hx);have H63:=hd' hb63
   have q0:(0:Int)≤(k:Int):=by omega
   have q1:(k:Int)<N:=by omega
   have e8:(b:Int).tmod 8=((b%8:Nat):Int):=(Int.ofNat_tmod b 8).symm;obtain⟨Q,hQ⟩:∃Q:Nat,b/8=Q:=⟨_,rfl⟩;obtain⟨P,hP⟩:∃P:Nat,2^(b%8)=P:=⟨_,rfl⟩
   have hP8:P≤128:=by rw[←hP];exact B.pow_mod8 b
   have f1:wrap64 ((b:Int)/8)=(Q:Int):=by rw[←hQ];unfold wrap64;omega
   have f2:IntKind.u64.wrap ((2:Int)^(b%8))=(P:Int):=by
    have:((2:Int)^(b%8))=(P:Int):=by rw[←hP];simp
    rw[this];simp[IntKind.wrap_u64];omega
   have HQP:=hd' (And.intro hQ hP)
   have hk64:k≤1000:=by omega
   have hm8:b%8≤1000:=by omega
   have hm7:b%8≤63:=by omega
   have HBY:Hid (n+5≤1000):=hd' (by have:=HNK.out;omega);clear hx hl1 hb63 hQ hP hP8;go_wp2_with fail;have hpe:=progAt_new [⟨2,2,1,0,0⟩] #[.int .i64 2,.int .i64 2,.int .i64 1,.int .i64 0,.int .u64 0] 1 74 wr rfl rfl;have hbe:Below wr.heap.size wr (wr.alloc (.cells #[.int .i64 2,.int .i64 2,.int .i64 1,.int .i64 0,.int .u64 0] 74)):=(Below.refl _ _).alloc (lR' _) _;have hlne:=HLR.out.below hbe;have hput:=put_any L ao n cn _ (some ⟨wr.heap.size,0,none⟩) 1 1 _ _ hlne hpe (fun h=>absurd h (by simp)) (by have:=HBY.out;clear e8 f1 f2 hlt hk q0 q1 hk64 hm8 hm7;omega);refine hput.mono ?_;intro e v4 hh;obtain⟨ao4,cap4,rfl,hln4,hg4⟩:=hh.grew;have HB4:Hid (Below L w2 v4):=hd' (HBR.out.trans ((hbe.mono (Nat.le_of_lt HLR.out.lt)).trans hg4.bel));have HL4:=hd' hln4;clear hpe hbe hlne hput hh hln4 hg4 hc1;have hsh:=shift_any 2 k (b%8) hk64 hm8 v4
   go_wp2_with (go_at_call 56;refine hsh.mono ?_;rintro e v5 ⟨a5,c5,rfl,hp5,hn5,hb5⟩);have hsl:=B.shiftI_len 2 k (b%8);have hbb:(n+1+(B.shiftI 2 k (b%8)).length)*40≤140737488355328:=Nat.le_trans (Nat.mul_le_mul_right 40 (Nat.le_trans (Nat.add_le_add_left hsl (n+1)) (by have:=HBY.out;omega:n+1+1≤1000))) (by decide);have hput:=put_any L ao4 (n+1) cap4 _ a5 _ c5 _ v5 (HL4.out.below hb5) hp5 hn5 hbb;refine hput.mono ?_;intro e v6 hh;obtain⟨ao6,cap6,rfl,hln6,hg6⟩:=hh.grew;have HB6:Hid (Below L w2 v6):=hd' (HB4.out.trans ((hb5.mono (Nat.le_of_lt HL4.out.lt)).trans hg6.bel));have HL6:=hd' hln6;have HSL:=hd' hsl
   have hlen6:n+1+(B.shiftI 2 k (b%8)).length+1≤2+3*(k+1):=by have:=HNK.out;omega
   have HLE6:=hd' hlen6;have hbb6:(n+1+(B.shiftI 2 k (b%8)).length+1)*40≤140737488355328:=Nat.le_trans (Nat.mul_le_mul_right 40 (Nat.le_trans hlen6 (by omega:2+3*(k+1)≤1000))) (by decide);have HBB6:=hd' hbb6;clear hp5 hn5 hb5 hput hh hln6 hg6 hsh hsl HL4 HB4 HLR hbb hbb6 hlen6 e8;generalize(B.shiftI 2 k (b%8)).length=sl at HL6 HLE6 HBB6;go_wp2_with fail;have hpe:=progAt_new [⟨13,2,(Q:Int),1,(P:Int)⟩] #[.int .i64 13,.int .i64 2,.int .i64 (Q:Int),.int .i64 1,.int .u64 (P:Int)] 1 74 v6 rfl rfl;have hbe:Below v6.heap.size v6 (v6.alloc (.cells #[.int .i64 13,.int .i64 2,.int .i64 (Q:Int),.int .i64 1,.int .u64 (P:Int)] 74)):=(Below.refl _ _).alloc (lR' _) _;have hlne:=HL6.out.below hbe;have hput:=put_any L ao6 _ cap6 _ (some ⟨v6.heap.size,0,none⟩) 1 1 _ _ hlne hpe (fun h=>absurd h (by simp)) HBB6.out;refine hput.mono ?_;intro e v7 hh
   obtain⟨ao7,cap7,rfl,hln7,hg7⟩:=hh.grew;have HB7:Hid (Below L w2 v7):=hd' (HB6.out.trans ((hbe.mono (Nat.le_of_lt HL6.out.lt)).trans hg7.bel))
   have hfin:LnAt v7 L ao7 (n+1+sl+1) cap7 ([⟨15,1,(i:Int),0,0⟩,⟨17,1,(i:Int),s.size,fl⟩]++B.flatI B.layBit 0 (s.bits.take (k+1))):=by
    have e:B.layBit k b=⟨2,2,1,0,0⟩::(B.shiftI 2 k (b%8)++[⟨13,2,(Q:Int),1,(P:Int)⟩]):=by
     unfold B.layBit;rw[HQP.out.1,HQP.out.2]
    rw[HX.out,e];simpa[List.append_assoc]using hln7
   have HL7:=hd' hfin;clear hpe hbe hlne hput hh hln7 hg7 hfin HL6 HB6;go_wp2_with fail;go_roundw
   case rel=>exact⟨k+1,n+1+sl+1,cap7,ao7,by omega,by go_num,HLE6.out,HB7.out,HL7⟩
   case measure=>simp[intOf];omega
  ·obtain rfl:N=k:=by omega
   have hlx:=HLR.out;have hlen:=hlx.own.len;have hcell:=hlx.cell
   have hps:([⟨15,1,(i:Int),0,0⟩,⟨17,1,(i:Int),s.size,fl⟩]++B.flatI B.layBit 0 (s.bits.take N):List B.Ins)=s.layI i:=by
    rw[List.take_of_length_le (by rw[HN.out];exact lR' _)];unfold B.Sig.layI;rw[HFL.out];rfl
   rw[hps]at hlen
   have hown:OwnP wr w.heap.size ao n cn (s.layI i):=by
    rw[←hps];refine⟨hlx.own.len,hlx.own.own.1, ?_⟩;rcases hlx.own.own.2 with h0 | ⟨g',c',cur,h1,h2,h3⟩
    ·exact .inl h0
    ·exact .inr ⟨g',c',cur,h1,by have:=HLW.out;omega,h3⟩
   have HOWN:=hd' hown;have HLEN:=hd' hlen;have HBW:=hd' (HBW2.out.trans (HBR.out.mono (Nat.le_of_lt HLW.out)));clear hlx hlen hps hown HLR;go_wp2_with fail;go_ret2;refine⟨ao,cn,by rw[←HLEN.out];rfl, ?_,HBW.out⟩;rw[←HLEN.out];exact HOWN.out
end Code
end Go.Proofs.YtljhklblbafjkaaGreatDoor
namespace Go.Proofs.YtljhklblbafjkaaGreatDoor
open Go.RowKit
namespace Code
attribute [local go_sem ↓] Go.wp_at_zero Go.wp_at_succ
set_option maxRecDepth 100000 in
set_option maxHeartbeats 25600000 in
theorem read_any(r:Int)(s:B.Sig)(tv:Value)(w:World)(hs:SigWf s)(hp:s.placeNo=0):
    Calls Tryz.prog 25 #[.int .i64 r,.agg (sigC s tv)] w (LayOut (s.readI r) w):=by
 have hrow:=RC.new (sigC s tv) 71 w (n:=19) rfl rfl;have hbel:Below w.heap.size w (w.alloc (.cells (sigC s tv) 71)):=(Below.refl _ _).alloc (lR' _) _;obtain⟨w1,hw1⟩:∃w1,w.alloc (.cells (sigC s tv) 71)=w1:=⟨_,rfl⟩;rw[hw1]at hrow hbel
 have hz1:w.heap.size<w1.heap.size:=by rw[←hw1];simp
 have hbits:=(bits_any s tv hs w1).mono (fun e w' (h:BitsAny s w1 e w')=>h.1 hp);have hrr:=RC.range hrow;have hpl:=B.Sig.place_ok hp;have HROW:=hd' hrow;have HB:=hd' hbel;have HZ:=hd' hz1;have HPL:=hd' hpl;clear hrow hbel hz1 hs hp hpl;go_enter Tryz.func25,Tryz.ntmps25
 go_upto_region 1 with fail
 try rw[hw1]
 clear hw1
 go_upto_region 4 with(first
  | refine wpList_load_mid (by rfl) 71 _ (by rfl) w.heap.size 0 (by rfl) (sigC s tv).toList _ hrr Tryz.underlying71 (by rfl) (by rw[infoN71];rfl) ?_
  | (go_at_call 55;refine hbits.mono ?_;rintro e w2 ⟨g,cap,rfl,hown,hb2⟩))
 have hrow2:=HROW.out.below hb2 HZ.out;have HBW2:=hd' (HB.out.trans (hb2.mono HB.out.size));have hlist2:=ListAt.ofOwn hown.own;have hlines:=lines_any w2;have hsz2:=hb2.size
 have hg2:g<w2.heap.size:=by
  rcases hown.form with⟨h0,_⟩ | ⟨g',e,_,h⟩
  ·cases h0
  ·cases e;exact h
 obtain⟨L,hL⟩:∃L,w2.heap.size=L:=⟨_,rfl⟩;unfold LinesOut putV at hlines;rw[hL]at hlines hg2;have HROW2:=hd' hrow2;have HLIST2:=hd' hlist2;have HLW:Hid (w.heap.size<L):=hd' (by rw[←hL];have:=HZ.out;omega);have HG2:=hd' hg2;clear hrow2 hown hb2 hsz2 hg2 hlist2 hL hbits hrr HROW HB HZ
 go_upto_region 5 with(go_at_call 23;refine hlines.mono ?_;rintro e w3 ⟨rfl,hln,hb3⟩)
 have HLN:=hd' hln;have HB3:=hd' hb3;clear hln hb3 hlines;go_wp2_with fail;have hpe:=progAt_new [⟨1,r,0,0,0⟩] #[.int .i64 1,.int .i64 r,.int .i64 0,.int .i64 0,.int .u64 0] 1 74 w3 rfl rfl;have hbe:Below w3.heap.size w3 (w3.alloc (.cells #[.int .i64 1,.int .i64 r,.int .i64 0,.int .i64 0,.int .u64 0] 74)):=(Below.refl _ _).alloc (lR' _) _;have hlne:=HLN.out.below hbe;have hput:=put_any L none 0 0 [] (some ⟨w3.heap.size,0,none⟩) 1 1 _ _ hlne hpe (fun h=>absurd h (by simp)) (by decide);refine hput.mono ?_;intro e v3 hh;obtain⟨ao3,cap3,rfl,hln3,hg3⟩:=hh.grew;have HLN3:=hd' hln3;have HB33:=hd' (HB3.out.trans ((hbe.mono (Nat.le_of_lt HLN.out.lt)).trans hg3.bel));clear hpe hbe hlne hput hh hln3 hg3 HLN
 have hnb:s.bits.length≤64:=by rw[s.bits_length];have:=HPL.out.1;omega
 obtain⟨N,hN⟩:∃N,s.bits.length=N:=⟨_,rfl⟩;have HN:=hd' hN;rw[hN]at HLIST2 hnb⊢;clear hN;go_wp2_with fail
 go_loopw [31] (fun x wr=>∃k n cap ao,k≤N∧x= .int .i64 (k:Nat)∧n≤1+4*k∧Below L w2 wr∧Hid (LnAt wr L ao n cap ([⟨1,r,0,0,0⟩]++B.flatI (B.readBit r) 0 (s.bits.take k)))) (fun x _=>N-(intOf x).toNat)
 case atStart=>exact⟨0,1,cap3,ao3,by omega,rfl,by omega,HB33.out,hd' (by rw[List.take_zero];exact HLN3.out)⟩
 case round=>
  obtain⟨k,n,cn,ao,hk,rfl,hn,hbr,HLR⟩:=hrel;have HBR:=hd' hbr;have HNK:=hd' hn;clear HLN3 HB33 hbr hn
  by_cases hlt:k<N
  ·have hx:s.bits[k]? =some (s.bits[k]'(by rw[HN.out];exact hlt)):=List.getElem?_eq_getElem _
   generalize s.bits[k]'(by rw[HN.out];exact hlt)=b at hx;obtain⟨b1,o1,e1,hl1,hc1⟩:=HLIST2.out.at_ k (natV b) (by rw[List.getElem?_map,hx];rfl);cases e1;replace hc1:=(HBR.out.cell (p:=⟨g,0+k,none⟩) HG2.out).trans hc1;unfold natV at hc1;rw[Nat.zero_add]at hc1;have hb63:b≤63:=HPL.out.2.2 b (List.mem_of_getElem? hx);have HX:=hd' (flatI_snoc (B.readBit r) s.bits k b hx)
   have q0:(0:Int)≤(k:Int):=by omega
   have q1:(k:Int)<N:=by omega
   have e8:(b:Int).tmod 8=((b%8:Nat):Int):=(Int.ofNat_tmod b 8).symm;obtain⟨Q,hQ⟩:∃Q:Nat,b/8=Q:=⟨_,rfl⟩;obtain⟨P,hP⟩:∃P:Nat,2^(b%8)=P:=⟨_,rfl⟩
   have hP8:P≤128:=by rw[←hP];exact B.pow_mod8 b
   have f1:wrap64 ((b:Int)/8)=(Q:Int):=by rw[←hQ];unfold wrap64;omega
   have f2:IntKind.u64.wrap ((2:Int)^(b%8))=(P:Int):=by
    have:((2:Int)^(b%8))=(P:Int):=by rw[←hP];simp
    rw[this];simp[IntKind.wrap_u64];omega
   have HQP:=hd' (And.intro hQ hP)
   have hk64:k≤1000:=by omega
   have hm8:b%8≤1000:=by omega
   have hm7:b%8≤63:=by omega
   have HBY:Hid (n+5≤1000):=hd' (by have:=HNK.out;omega);clear hx hl1 hb63 hQ hP hP8;go_wp2_with fail;have hpe:=progAt_new [⟨9,2,(Q:Int),1,0⟩,⟨8,2,0,0,(P:Int)⟩] #[.int .i64 9,.int .i64 2,.int .i64 (Q:Int),.int .i64 1,.int .u64 0,.int .i64 8,.int .i64 2,.int .i64 0,.int .i64 0,.int .u64 (P:Int)] 2 74 wr rfl rfl;have hbe:Below wr.heap.size wr (wr.alloc (.cells #[.int .i64 9,.int .i64 2,.int .i64 (Q:Int),.int .i64 1,.int .u64 0,.int .i64 8,.int .i64 2,.int .i64 0,.int .i64 0,.int .u64 (P:Int)] 74)):=(Below.refl _ _).alloc (lR' _) _;have hlne:=HLR.out.below hbe;have hb0:(n+2)*40≤140737488355328:=Nat.le_trans (Nat.mul_le_mul_right 40 (by have:=HBY.out;omega:n+2≤1000)) (by decide);have hput:=put_any L ao n cn _ (some ⟨wr.heap.size,0,none⟩) 2 2 _ _ hlne hpe (fun h=>absurd h (by simp)) hb0;refine hput.mono ?_;intro e v4 hh;obtain⟨ao4,cap4,rfl,hln4,hg4⟩:=hh.grew
   have HB4:Hid (Below L w2 v4):=hd' (HBR.out.trans ((hbe.mono (Nat.le_of_lt HLR.out.lt)).trans hg4.bel));have HL4:=hd' hln4;clear hpe hbe hlne hput hh hln4 hg4 hc1 hb0;have hsh:=shift_any 2 (b%8) k hm8 hk64 v4;go_wp2_with (go_at_call 56;refine hsh.mono ?_;rintro e v5 ⟨a5,c5,rfl,hp5,hn5,hb5⟩);have hsl:=B.shiftI_len 2 (b%8) k;have hbb:(n+2+(B.shiftI 2 (b%8) k).length)*40≤140737488355328:=Nat.le_trans (Nat.mul_le_mul_right 40 (Nat.le_trans (Nat.add_le_add_left hsl (n+2)) (by have:=HBY.out;omega:n+2+1≤1000))) (by decide);have hput:=put_any L ao4 (n+2) cap4 _ a5 _ c5 _ v5 (HL4.out.below hb5) hp5 hn5 hbb;refine hput.mono ?_;intro e v6 hh;obtain⟨ao6,cap6,rfl,hln6,hg6⟩:=hh.grew;have HB6:Hid (Below L w2 v6):=hd' (HB4.out.trans ((hb5.mono (Nat.le_of_lt HL4.out.lt)).trans hg6.bel));have HL6:=hd' hln6
   have hlen6:n+2+(B.shiftI 2 (b%8) k).length+1≤1+4*(k+1):=by have:=HNK.out;omega
   have HLE6:=hd' hlen6;have hbb6:(n+2+(B.shiftI 2 (b%8) k).length+1)*40≤140737488355328:=Nat.le_trans (Nat.mul_le_mul_right 40 (Nat.le_trans hlen6 (by omega:1+4*(k+1)≤1000))) (by decide);have HBB6:=hd' hbb6;clear hp5 hn5 hb5 hput hh hln6 hg6 hsh hsl HL4 HB4 HLR hbb hbb6 hlen6 e8 f1 f2;generalize(B.shiftI 2 (b%8) k).length=sl at HL6 HLE6 HBB6;go_wp2_with fail;have hpe:=progAt_new [⟨4,r,2,0,0⟩] #[.int .i64 4,.int .i64 r,.int .i64 2,.int .i64 0,.int .u64 0] 1 74 v6 rfl rfl;have hbe:Below v6.heap.size v6 (v6.alloc (.cells #[.int .i64 4,.int .i64 r,.int .i64 2,.int .i64 0,.int .u64 0] 74)):=(Below.refl _ _).alloc (lR' _) _;have hlne:=HL6.out.below hbe;have hput:=put_any L ao6 _ cap6 _ (some ⟨v6.heap.size,0,none⟩) 1 1 _ _ hlne hpe (fun h=>absurd h (by simp)) HBB6.out;refine hput.mono ?_;intro e v7 hh;obtain⟨ao7,cap7,rfl,hln7,hg7⟩:=hh.grew
   have HB7:Hid (Below L w2 v7):=hd' (HB6.out.trans ((hbe.mono (Nat.le_of_lt HL6.out.lt)).trans hg7.bel))
   have hfin:LnAt v7 L ao7 (n+2+sl+1) cap7 ([⟨1,r,0,0,0⟩]++B.flatI (B.readBit r) 0 (s.bits.take (k+1))):=by
    have e:B.readBit r k b=⟨9,2,(Q:Int),1,0⟩::⟨8,2,0,0,(P:Int)⟩::(B.shiftI 2 (b%8) k++[⟨4,r,2,0,0⟩]):=by
     unfold B.readBit;rw[HQP.out.1,HQP.out.2]
    rw[HX.out,e];simpa[List.append_assoc]using hln7
   have HL7:=hd' hfin;clear hpe hbe hlne hput hh hln7 hg7 hfin HL6 HB6;go_wp2_with fail;go_roundw
   case rel=>exact⟨k+1,n+2+sl+1,cap7,ao7,by omega,by go_num,HLE6.out,HB7.out,HL7⟩
   case measure=>simp[intOf];omega
  ·obtain rfl:N=k:=by omega
   have hrowr:RC wr w.heap.size 71 19 (sigC s tv):=HROW2.out.below HBR.out HLW.out;have k6:wr.cell? ⟨w.heap.size,6,none⟩=some (.int .i64 s.size):=hrowr.cell (j:=6) rfl;have k8:wr.cell? ⟨w.heap.size,8,none⟩=some (.bool s.signed):=hrowr.cell (j:=8) rfl;have htk:s.bits.take N=s.bits:=List.take_of_length_le (by rw[HN.out];exact lR' _);rw[htk]at HLR
   have hlow:∀(wz:World) (az:Option Addr) (nz cz:Nat) (ps:List B.Ins),LnAt wz L az nz cz ps→OwnP wz w.heap.size az nz cz ps:=fun wz az nz cz ps h=>by
    refine⟨h.own.len,h.own.own.1, ?_⟩;rcases h.own.own.2 with h0 | ⟨g',c',cur,h1,h2,h3⟩
    ·exact .inl h0
    ·exact .inr ⟨g',c',cur,h1,by have:=HLW.out;omega,h3⟩
   have HLOW:=hd' hlow;clear hrowr htk hlow
   cases hsg:s.signed with
   | true=>
    rw[hsg]at k8
    have hps:([⟨1,r,0,0,0⟩]++B.flatI (B.readBit r) 0 s.bits++[⟨14,r,0,s.size,0⟩]:List B.Ins)=s.readI r:=by
     unfold B.Sig.readI;rw[if_pos hsg];simp
    have HPS:=hd' hps;clear hps hsg;go_wp2_with fail;have hpe:=progAt_new [⟨14,r,0,s.size,0⟩] #[.int .i64 14,.int .i64 r,.int .i64 0,.int .i64 s.size,.int .u64 0] 1 74 wr rfl rfl;have hbe:Below wr.heap.size wr (wr.alloc (.cells #[.int .i64 14,.int .i64 r,.int .i64 0,.int .i64 s.size,.int .u64 0] 74)):=(Below.refl _ _).alloc (lR' _) _;have hlne:=HLR.out.below hbe;have hb0:(n+1)*40≤140737488355328:=Nat.le_trans (Nat.mul_le_mul_right 40 (by have:=HNK.out;omega:n+1≤1000)) (by decide);have hput:=put_any L ao n cn _ (some ⟨wr.heap.size,0,none⟩) 1 1 _ _ hlne hpe (fun h=>absurd h (by simp)) hb0;refine hput.mono ?_;intro e v4 hh;obtain⟨ao4,cap4,rfl,hln4,hg4⟩:=hh.grew;rw[HPS.out]at hln4;have hcell:=hln4.cell;have HLEN:=hd' hln4.own.len;have HOWN:=hd' (HLOW.out _ _ _ _ _ hln4)
    have HBW:=hd' (HBW2.out.trans ((HBR.out.trans ((hbe.mono (Nat.le_of_lt HLR.out.lt)).trans hg4.bel)).mono (Nat.le_of_lt HLW.out)));clear hpe hbe hlne hput hh hln4 hg4 hb0 k6 k8 HLR;go_wp2_with fail;go_ret2;refine⟨ao4,cap4,by rw[←HLEN.out];rfl, ?_,HBW.out⟩;rw[←HLEN.out];exact HOWN.out
   | false=>
    rw[hsg]at k8
    have hps:([⟨1,r,0,0,0⟩]++B.flatI (B.readBit r) 0 s.bits:List B.Ins)=s.readI r:=by
     unfold B.Sig.readI;rw[if_neg (by rw[hsg];simp)];simp
    rw[hps]at HLR;have hcell:=HLR.out.cell;have HLEN:=hd' HLR.out.own.len;have HOWN:=hd' (HLOW.out _ _ _ _ _ HLR.out);have HBW:=hd' (HBW2.out.trans (HBR.out.mono (Nat.le_of_lt HLW.out)));clear hps hsg k6 HLR;go_wp2_with fail;go_ret2;refine⟨ao,cn,by rw[←HLEN.out];rfl, ?_,HBW.out⟩;rw[←HLEN.out];exact HOWN.out
end Code
end Go.Proofs.YtljhklblbafjkaaGreatDoor
