/- FuseRow, as a contract: the law of every input, without card. -/
import Derived.Test.YtpibampaobncaaaGreatDoorFusZ
import Derived.Test.YtpibampaobncaaaGreatDoorMoreQ
open Go.Lib renaming hid→hd'
open Nat renaming le_refl→lR'
namespace Go.Proofs.YtpibampaobncaaaGreatDoor
open Go.RowKit Go.Proofs.YtpibampaobncaaaGreatDoor.Code
namespace LawFuseRow
attribute [local go_sem ↓] Go.wp_at_zero Go.wp_at_succ
theorem app_liesI{ops:Array Oper}{rest:List Oper}{o:Oper}{a:Act}{Q:Exit→Act→World→Prop}{w:World}(hgd:o.guard=none)(s x:Operand)
    (ho:o.op= .call { callee:=.builtin .append,args:= #[s,x],argTypes:= #[26,26]})
    (base:Nat) {g n cap:Nat} {qs:List B.Ins} (hs:a.eval s= .slice (some ⟨g,0,none⟩) n cap) (hown:OwnP w base (some ⟨g,0,none⟩) n cap qs)
    {a2:Option Addr} {m c2:Nat} {ps:List B.Ins} (hx:a.eval x= .slice a2 m c2) (hp:ProgAt w a2 m ps) (hm:ps≠[]) (hbytes:(n+m)*40≤140737488355328) (hbase:base≤w.heap.size)
    (h:∀g' cap' w',OwnP w' base (some ⟨g',0,none⟩) (n+m) cap' (qs++ps)→(∀k,k<w.heap.size→k≠g→w'.heap[k]? =w.heap[k]?)→(g'=g∨g'=w.heap.size)→Below base w w'→w.heap.size≤w'.heap.size→wpList Tryz.prog ops Q rest (a.put o.dst (.slice (some ⟨g',0,none⟩) (n+m) cap')) w'):
    wpList Tryz.prog ops Q (o::rest) a w:=by
 obtain⟨i,hi,hz0,hz1,hz2⟩:=info_parts info25;have hlt:=hown.own.lt
 cases a2 with
 | none=>exact absurd hp.none_nil.1 hm
 | some ad=>
  have hm0:0<m:=by
   rw[hp.len];exact List.length_pos_iff.2 hm
  refine wpList_append_lies _ hgd s x 26 ho base 25 i _ 5 40 Tryz.underlying26 hi hz0 hz1 hz2 rfl (by decide) _ n (cellsP qs) hs hown.own ad m c2 (cellsP ps) hx (by rw[cellsP_length,hp.len]) hp.news (cellsP_ones ps) hm0 (by simp only[maxLen];omega) hbytes hbase w.heap.size rfl ?_;intro g' cap' w' hown' hg hat hgl;have hb:Below base w w':=(Below.refl base w).grown hg hbase (fun k hk=>(hlt k hk).1);refine h g' cap' w' ⟨by rw[List.length_append,hown.len,hp.len],by rw[cellsP_append];exact hown'⟩ (fun k hk hne=>hg.block k hk (fun e=>hne (Option.some.inj e))) ?_ hb hb.size;rcases hat with hat | hat
  ·exact .inl (Option.some.inj hat).symm
  ·exact .inr hat
theorem own_stays{w w':World}{base g n cap:Nat}{qs:List B.Ins}(h:OwnP w base (some ⟨g,0,none⟩) n cap qs)(he:w'.heap[g]? =w.heap[g]?):OwnP w' base (some ⟨g,0,none⟩) n cap qs:=by
 refine⟨h.len,h.own.1, ?_⟩;rcases h.own.2 with h2 | ⟨g',c,cur,e,hb,hh,h3⟩
 ·exact .inl h2
 ·refine .inr ⟨g',c,cur,e,hb, ?_,h3⟩
  have:g=g':=by injection e with e _ _;injection e with e;injection e
  rw[←this]at hh⊢;exact he.trans hh
theorem own_blk{w:World}{base g n cap:Nat}{qs:List B.Ins}(h:OwnP w base (some ⟨g,0,none⟩) n cap qs):base≤g∧g<w.heap.size:=h.own.lt g rfl
theorem layP_succ(s k:Nat):B.layP s (k+1)=B.layP s k++B.bitC s k:=by
 unfold B.layP;rw[List.range_succ,List.flatMap_append];simp
theorem readB_succ(s k:Nat):B.readB s (k+1)=B.readB s k++B.backC s k:=by
 unfold B.readB;rw[List.range_succ,List.flatMap_append];simp
theorem midI_len(d:Int):(B.midI d).length≤1:=B.sh_len (B.midI_sh d)
theorem bitG_len(d:Int)(q:Nat):(bitG d q).length≤3:=by
 have:=midI_len d;unfold bitG;simp;omega
theorem backG_len(d:Int)(q:Nat):(backG d q).length≤4:=by
 have:=midI_len d;unfold backG;simp;omega
theorem mask_or(s k T:Nat)(hT:s%8+k=T)(h:s+k≤63):IntKind.u64.wrap (2^T)=((2^T:Nat):Int)∧bits BinOp.or .u64 ((B.rowBits s k:Nat):Int) ((2^T:Nat):Int)=((B.rowBits s (k+1):Nat):Int):=by
 have hT63:T≤63:=by omega
 have h1:2^T≤2^63:=Nat.pow_le_pow_right (by omega) hT63
 have h2:B.rowBits s k<18446744073709551616:=by
  unfold B.rowBits;have h3:(2^k-1)*2^(s%8)<2^k*2^(s%8):=Nat.mul_lt_mul_of_pos_right (by have:=Nat.two_pow_pos k;omega) (Nat.two_pow_pos _);rw[←Nat.pow_add]at h3;have h4:2^(k+s%8)≤2^63:=Nat.pow_le_pow_right (by omega) (by omega)
  have h5:(2:Nat)^63=9223372036854775808:=by decide
  omega
 have h5:(2:Nat)^63=9223372036854775808:=by decide
 refine⟨?_, ?_⟩
 ·have e:((2:Int)^T)=((2^T:Nat):Int):=by push_cast;rfl
  rw[e];generalize 2^T=u at*;exact IntWalk.u64_in _ (by omega)
 ·rw[u64_or_nat _ _ h2 (by omega),←hT,B.rowBits_next]
theorem fown_three(x y z:B.Ins)(w:World)(base X:Nat)(hb:base≤w.heap.size)(hX:X=w.heap.size):OwnP (w.alloc (.cells #[.int .i64 x.op,.int .i64 x.a,.int .i64 x.b,.int .i64 x.n,.int .u64 x.imm,.int .i64 y.op,.int .i64 y.a,.int .i64 y.b,.int .i64 y.n,.int .u64 y.imm,.int .i64 z.op,.int .i64 z.a,.int .i64 z.b,.int .i64 z.n,.int .u64 z.imm] 25)) base (some ⟨X,0,none⟩) 3 3 [x,y,z]:=by
 subst hX;exact⟨rfl,World.ownsRow_lit w _ 3 hb (by simp[maxLen]) rfl⟩
theorem code_ne(d:Int)(q:Nat):bitG d q≠[]:=by unfold bitG;simp
theorem back_ne(d:Int)(q:Nat):backG d q≠[]:=by unfold backG;simp
set_option maxRecDepth 100000 in
set_option maxHeartbeats 3200000 in
theorem law(n0:Int)(n1:Int)(w:World)(hR:Tabs w)(hi0:B.In64 n0)(hi1:B.In64 n1):
    Calls Tryz.prog 12 #[.int .i64 n0,.int .i64 n1] w (BoolOut true w):=by
 obtain⟨s,hs⟩:∃s:Nat,pickV n0 64=s:=⟨(pickV n0 64).toNat,by have:=pickV_range n0 64 (by omega);omega⟩
 have hs64:s≤63:=by have:=pickV_range n0 64 (by omega);omega
 obtain⟨m,hmm⟩:∃m:Nat,pickV n1 (64-(s:Int))=m:=⟨(pickV n1 (64-(s:Int))).toNat,by have:=pickV_range n1 (64-(s:Int)) (by omega);omega⟩
 have hm64:s+m≤63:=by have:=pickV_range n1 (64-(s:Int)) (by omega);omega
 have HR:=hd' hR;have HS:=hd' hs;have HMM:=hd' hmm;have HI0:=hd' hi0;have HI1:=hd' hi1;clear hR hs hmm hi0 hi1
 have e1:(s:Int)/8=((s/8:Nat):Int):=by omega
 go_enter Tryz.func12,Tryz.ntmps12;go_wp2_with fail;refine(pick_any n0 64 HI0.out (by omega) (by omega) _).mono ?_;rintro e w1 ⟨rfl,rfl⟩;rw[HS.out];go_wp2_with fail;refine(pick_any n1 (64-(s:Int)) HI1.out (by omega) (by omega) _).mono ?_;rintro e w1 ⟨rfl,rfl⟩;rw[HMM.out]
 have s0:(0:Int)≤(s:Int):=by omega
 have s1:(s:Int)≤63:=by omega
 have m0:(0:Int)≤(m:Int):=by omega
 have m1:(m:Int)≤63:=by omega
 obtain⟨u,hu⟩:∃u,s/8=u:=⟨_,rfl⟩;rw[hu]at e1;have HU:=hd' hu
 have hu8:u≤7:=by omega
 have hu1:8*u≤s:=by omega
 have hu2:s<8*u+8:=by omega
 clear hu;go_wp2_with fail;obtain⟨wA,hwA⟩:∃wA,(w1.alloc (.cells #[.int .i64 15,.int .i64 1,.int .i64 0,.int .i64 0,.int .u64 0] 25)).alloc (.cells #[.int .i64 1,.int .i64 1,.int .i64 0,.int .i64 0,.int .u64 0] 25)=wA:=⟨_,rfl⟩
 have hb0:Below w1.heap.size w1 wA:=by rw[←hwA];exact((Below.refl _ _).alloc (lR' _) _).alloc (by simp) _
 have hL0:OwnP wA w1.heap.size (some ⟨w1.heap.size,0,none⟩) 1 1 (B.layP s 0):=by
  rw[←hwA];exact(fown_one ⟨15,1,0,0,0⟩ w1 _ _ (lR' _) rfl).kept ((Below.refl _ _).alloc (lR' _) _)
 have hR0:OwnP wA w1.heap.size (some ⟨w1.heap.size+1,0,none⟩) 1 1 (B.readB s 0):=by
  rw[←hwA];exact fown_one ⟨1,1,0,0,0⟩ _ _ _ (by simp) (by simp)
 have HB0:=hd' hb0;have HL0:=hd' hL0;have HR0:=hd' hR0;rw[hwA];clear hwA hb0 hL0 hR0
 go_loopw [7,8,9,11] (fun v7 v8 v9 i wr=>∃(k gL nL cL gR nR cR:Nat),i= .int .i64 (k:Int)∧k≤m+1∧v7= .slice (some ⟨gL,0,none⟩) nL cL∧v8= .slice (some ⟨gR,0,none⟩) nR cR∧v9= .int .u64 ((B.rowBits s k:Nat):Int)∧OwnP wr w1.heap.size (some ⟨gL,0,none⟩) nL cL (B.layP s k)∧OwnP wr w1.heap.size (some ⟨gR,0,none⟩) nR cR (B.readB s k)∧gL≠gR∧Below w1.heap.size w1 wr) (fun _ _ _ i _=>(m+1)-(intOf i).toNat)
 case atStart=>exact⟨0,_,1,1,_,1,1,rfl,by omega,rfl,rfl,by rw[show B.rowBits s 0=0 by simp[B.rowBits]];rfl,HL0.out,HR0.out,by omega,HB0.out⟩
 case round=>
  obtain⟨k,gL,nL,cL,gR,nR,cR,rfl,hk,rfl,rfl,rfl,hoL,hoR,hne,hb⟩:=hrel;have HL:=hd' hoL;have HRR:=hd' hoR;have HB:=hd' hb;have hsz:=hb.size
  have hnL:nL≤3*k+1:=by rw[hoL.len];exact B.layP_len s k
  have hnR:nR≤4*k+1:=by rw[hoR.len];exact B.readB_len s k
  have hgL:=own_blk hoL;have hgR:=own_blk hoR;clear hoL hoR hb HB0 HL0 HR0
  by_cases hlt:k<m+1
  ·have k0:(0:Int)≤(k:Int):=by omega
   have k1:(k:Int)≤63:=by omega
   have k2:(k:Int)<1+(m:Int):=by omega
   obtain⟨r,hr⟩:∃r,(s+k)%8=r:=⟨_,rfl⟩
   have e2:((s:Int)+(k:Int))%8=(r:Int):=by omega
   have hr8:r<8:=by omega
   obtain⟨T,hT⟩:∃T,s%8+k=T:=⟨_,rfl⟩
   have e3:(s:Int)+(k:Int)-8*(u:Int)=(T:Int):=by have:=HU.out;omega
   obtain⟨e4,e5⟩:=mask_or s k T hT (by omega)
   have hT63:(T:Int)≤63:=by omega
   have T0:(0:Int)≤(T:Int):=by omega
   have x1:IntKind.i64.wrap ((r:Int)-(k:Int))=(r:Int)-(k:Int):=IntWalk.i64_in _ (by omega);have x2:IntKind.i64.wrap ((k:Int)-(r:Int))=(k:Int)-(r:Int):=IntWalk.i64_in _ (by omega);have x3:IntKind.i64.wrap (8*(u:Int))=8*(u:Int):=IntWalk.i64_in _ (by omega)
   have HBIT:Hid (∀w,Calls Tryz.prog 9 #[.int .i64 2,.int .i64 1,.int .i64 ((r:Int)-(k:Int)),.int .i64 ((s:Int)+(k:Int))] w (CodeOut (B.bitC s k) w)):=by
    refine hd' (fun w=> ?_);have:=bit_any ((r:Int)-(k:Int)) (s+k) (by omega) (by omega) (by omega) w;rw[show bitG ((r:Int)-(k:Int)) (s+k)=B.bitC s k by rw[←hr];rfl,show((s+k:Nat):Int)=(s:Int)+(k:Int) by omega]at this;exact this
   have HBCK:Hid (∀w,Calls Tryz.prog 13 #[.int .i64 2,.int .i64 1,.int .i64 ((k:Int)-(r:Int)),.int .i64 ((s:Int)+(k:Int))] w (CodeOut (B.backC s k) w)):=by
    refine hd' (fun w=> ?_);have:=back_any ((k:Int)-(r:Int)) (s+k) (by omega) (by omega) (by omega) w;rw[show backG ((k:Int)-(r:Int)) (s+k)=B.backC s k by rw[←hr];rfl,show((s+k:Nat):Int)=(s:Int)+(k:Int) by omega]at this;exact this
   have hl1:(B.bitC s k).length≤3:=bitG_len _ _;have hl2:(B.backC s k).length≤4:=backG_len _ _;have HN1:Hid (B.bitC s k≠[]):=hd' (code_ne _ _);have HN2:Hid (B.backC s k≠[]):=hd' (back_ne _ _);have HLS:=hd' (layP_succ s k);have HRS:=hd' (readB_succ s k);clear hr hT;generalize B.bitC s k=bc at*;generalize B.backC s k=kc at*;generalize 2^T=pw at*
   go_upto_region 11 with fail
   go_wp2_with fail;refine(HBIT.out _).mono ?_;rintro e w2 ⟨ao2,cp2,rfl,hown2,hb2⟩;have HO2:=hd' hown2;have HL2:=hd' (HL.out.kept hb2);have HR2:=hd' (HRR.out.kept hb2);have HB2:=hd' (HB.out.trans (hb2.mono hsz));have hsz2:=HB2.out.size;have hz2:=hb2.size;clear hown2 hb2 HL HRR HB;go_wp2_with (at_builtin;refine app_liesI rfl _ _ rfl w1.heap.size rfl HL2.out rfl HO2.out.progAt HN1.out (by omega) hsz2 ?_;intro gL3 cL3 w3 hown3 hk3 hat3 hb3 hs3)
   have HL3:Hid (OwnP w3 w1.heap.size (some ⟨gL3,0,none⟩) (nL+bc.length) cL3 (B.layP s (k+1))):=by rw[HLS.out];exact hd' hown3
   have HR3:=hd' (own_stays HR2.out (hk3 gR (by omega) (Ne.symm hne)))
   have hne3:gL3≠gR:=by rcases hat3 with h | h<;>omega
   have HB3:=hd' (HB2.out.trans hb3);have hsz3:=HB3.out.size;clear hown3 hk3 hat3 hb3 HO2 HL2 HR2 HB2;go_wp2_with fail;refine(HBCK.out _).mono ?_;rintro e w4 ⟨ao4,cp4,rfl,hown4,hb4⟩;have HO4:=hd' hown4;have HL4:=hd' (HL3.out.kept hb4);have HR4:=hd' (HR3.out.kept hb4);have HB4:=hd' (HB3.out.trans (hb4.mono hsz3));have hsz4:=HB4.out.size;have hgl4:=own_blk HL4.out;clear hown4 hb4 HL3 HR3 HB3;go_wp2_with (at_builtin;refine app_liesI rfl _ _ rfl w1.heap.size rfl HR4.out rfl HO4.out.progAt HN2.out (by omega) hsz4 ?_;intro gR5 cR5 w5 hown5 hk5 hat5 hb5 hs5)
   have HR5:Hid (OwnP w5 w1.heap.size (some ⟨gR5,0,none⟩) (nR+kc.length) cR5 (B.readB s (k+1))):=by rw[HRS.out];exact hd' hown5
   have HL5:=hd' (own_stays HL4.out (hk5 gL3 hgl4.2 hne3))
   have hne5:gL3≠gR5:=by rcases hat5 with h | h<;>omega
   have HB5:=hd' (HB4.out.trans hb5);clear hown5 hk5 hat5 hb5 HO4 HL4 HR4 HB4;go_wp2_with fail;go_roundw
   case rel=>exact⟨k+1,gL3,_,cL3,gR5,_,cR5,by go_num,by omega,rfl,rfl,rfl,HL5.out,HR5.out,hne5,HB5.out⟩
   case measure=>simp[intOf];omega
  ·obtain rfl:k=m+1:=by omega
   have k2:¬((m:Int)+1<1+(m:Int)):=by omega
   have k3:((m+1:Nat):Int)=(m:Int)+1:=by omega
   have HB0':=HB;have hp14:=progAt_new [⟨16,1,0,0,0⟩] #[.int .i64 16,.int .i64 1,.int .i64 0,.int .i64 0,.int .u64 0] 1 25 wr rfl rfl;have HP14:=hd' hp14;have hba:=(Below.refl wr.heap.size wr).alloc (lR' _) (.cells #[.int .i64 16,.int .i64 1,.int .i64 0,.int .i64 0,.int .u64 0] 25);have HRa:=hd' (HRR.out.kept hba);have HLa:=hd' (HL.out.kept hba)
   have hza:w1.heap.size≤(wr.alloc (.cells #[.int .i64 16,.int .i64 1,.int .i64 0,.int .i64 0,.int .u64 0] 25)).heap.size:=by simp;omega
   have hN14:([⟨16,1,0,0,0⟩]:List B.Ins)≠[]:=by simp
   have HBa:=hd' (HB.out.alloc hsz (.cells #[.int .i64 16,.int .i64 1,.int .i64 0,.int .i64 0,.int .u64 0] 25));clear hp14 hba HB0'
   go_upto_region 15 with(at_builtin;refine app_liesI rfl _ _ rfl w1.heap.size rfl HRa.out rfl HP14.out hN14 (by omega) hza ?_;intro gR5 cR5 w5 hown5 hk5 hat5 hb5 hs5)
   have HR5:Hid (OwnP w5 w1.heap.size (some ⟨gR5,0,none⟩) (nR+1) cR5 (B.readP s (m+1))):=hd' hown5;have HL5:=hd' (own_stays HLa.out (hk5 gL (by simp;omega) hne));have HB5:=hd' (HBa.out.trans hb5);have hsz5:=HB5.out.size;clear hown5 hk5 hat5 hb5 HRa HLa HBa HP14 hN14 HL HRR HB hne hgL hgR hza
   have ew:((s:Int)+(1+(m:Int))-1)/8+1-(u:Int)=(((s+(m+1)-1)/8+1:Nat):Int)-(u:Int):=by omega
   obtain⟨W,hW⟩:∃W:Int,((s:Int)+(1+(m:Int))-1)/8+1-(u:Int)=W:=⟨_,rfl⟩
   have HW1:Hid ((((s+(m+1)-1)/8+1:Nat):Int)-((s/8:Nat):Int)=W):=by rw[HU.out,←hW,ew];exact hd' rfl
   obtain⟨bm,hbm⟩:∃bm,B.rowBits s (m+1)=bm:=⟨_,rfl⟩;have HBM:=hd' hbm;rw[hbm];obtain⟨v8,hv8⟩:∃v8,s%8=v8:=⟨_,rfl⟩;have HV8:=hd' hv8
   have hv88:v8<8:=by omega
   have em:(s:Int)%8=(v8:Int):=by omega
   clear ew hbm hv8
   have hnLb:nL≤200:=by omega
   have hnRb:nR+1≤300:=by omega
   go_upto_region 18 with fail
   try rw[hW]
   clear hW;obtain⟨Z,hZe⟩:∃Z,w5.heap.size=Z:=⟨_,rfl⟩;obtain⟨w6,hw6⟩:∃w6,(w5.alloc (.cells #[.int .i64 15,.int .i64 1,.int .i64 0,.int .i64 0,.int .u64 0,.int .i64 2,.int .i64 2,.int .i64 1,.int .i64 0,.int .u64 0] 25)).alloc (.cells #[.int .i64 1,.int .i64 1,.int .i64 0,.int .i64 0,.int .u64 0,.int .i64 9,.int .i64 2,.int .i64 u,.int .i64 W,.int .u64 0,.int .i64 8,.int .i64 2,.int .i64 0,.int .i64 0,.int .u64 bm] 25)=w6:=⟨_,rfl⟩;have hba:=(Below.refl w5.heap.size w5).alloc (lR' _) (.cells #[.int .i64 15,.int .i64 1,.int .i64 0,.int .i64 0,.int .u64 0,.int .i64 2,.int .i64 2,.int .i64 1,.int .i64 0,.int .u64 0] 25);have hbb:=hba.alloc (by simp) (.cells #[.int .i64 1,.int .i64 1,.int .i64 0,.int .i64 0,.int .u64 0,.int .i64 9,.int .i64 2,.int .i64 u,.int .i64 W,.int .u64 0,.int .i64 8,.int .i64 2,.int .i64 0,.int .i64 0,.int .u64 bm] 25)
   rw[hw6]at hbb
   have HO6:Hid (OwnP w6 Z (some ⟨Z,0,none⟩) 2 2 [⟨15,1,0,0,0⟩,⟨2,2,1,0,0⟩]):=by
    rw[←hw6,←hZe];exact hd' ((fown_two ⟨15,1,0,0,0⟩ ⟨2,2,1,0,0⟩ w5 _ _ (lR' _) rfl).kept ((Below.refl _ _).alloc (lR' _) _))
   have HT6:Hid (OwnP w6 Z (some ⟨Z+1,0,none⟩) 3 3 [⟨1,1,0,0,0⟩,⟨9,2,u,W,0⟩,⟨8,2,0,0,bm⟩]):=by
    rw[←hw6,←hZe];exact hd' (fown_three ⟨1,1,0,0,0⟩ ⟨9,2,u,W,0⟩ ⟨8,2,0,0,bm⟩ _ _ _ (by simp) (by simp))
   have HL6:=hd' (HL5.out.kept hbb);have HR6:=hd' (HR5.out.kept hbb);have HB6:=hd' (HB5.out.trans (hbb.mono hsz5));have hsz6:=HB6.out.size;have hgL6:=own_blk HL5.out;have hgR6:=own_blk HR5.out;rw[hZe]at hgL6 hgR6
   have hZ:w1.heap.size≤Z:=by omega
   rw[hw6,hZe];clear hw6 hba hbb HL5 HR5 HB5 hZe
   by_cases h8:0<v8
   ·have h8:0<v8:=h8
    have g8:(0:Int)<(v8:Int):=by omega
    go_upto_region 19 with fail
    have hba6:=(Below.refl w6.heap.size w6).alloc (lR' _) (.cells #[.int .i64 6,.int .i64 2,.int .i64 0,.int .i64 v8,.int .u64 0] 25);have HOa:=hd' (HO6.out.kept hba6);have HTa:=hd' (HT6.out.kept hba6);have HLa:=hd' (HL6.out.kept hba6);have HRa:=hd' (HR6.out.kept hba6);have HBa:=hd' (HB6.out.alloc hsz6 (.cells #[.int .i64 6,.int .i64 2,.int .i64 0,.int .i64 v8,.int .u64 0] 25));have hP6:=progAt_new [⟨6,2,0,v8,0⟩] #[.int .i64 6,.int .i64 2,.int .i64 0,.int .i64 v8,.int .u64 0] 1 25 w6 rfl rfl;have HP6:=hd' hP6
    have hN6:([⟨6,2,0,v8,0⟩]:List B.Ins)≠[]:=by simp
    have hza:Z≤(w6.alloc (.cells #[.int .i64 6,.int .i64 2,.int .i64 0,.int .i64 v8,.int .u64 0] 25)).heap.size:=by have:=own_blk HO6.out;simp;omega
    have hgo6:=own_blk HOa.out;have hgt6:=own_blk HTa.out;have hgl6:=own_blk HLa.out;have hgr6:=own_blk HRa.out;clear hP6 hba6 HO6 HT6 HL6 HR6 HB6
    go_upto_region 20 with(at_builtin;refine app_liesI rfl _ _ rfl Z rfl HOa.out rfl HP6.out hN6 (by omega) hza ?_;intro gO7 cO7 w7 hown7 hk7 hat7 hb7 hs7)
    have HO7:=hd' hown7;have HT7:=hd' (own_stays HTa.out (hk7 _ hgt6.2 (by omega)));have HL7:=hd' (own_stays HLa.out (hk7 _ hgl6.2 (by omega)));have HR7:=hd' (own_stays HRa.out (hk7 _ hgr6.2 (by omega)));have HB7:=hd' (HBa.out.trans (hb7.mono hZ));have hsz7:=HB7.out.size
    have hOT7:gO7≠Z+1:=by rcases hat7 with h | h<;>omega
    clear hown7 hk7 hat7 hb7 HLa HRa HBa HOa HTa hgo6 hgt6 hgl6 hgr6 HP6 hN6 hza;have hba7:=(Below.refl w7.heap.size w7).alloc (lR' _) (.cells #[.int .i64 7,.int .i64 2,.int .i64 0,.int .i64 v8,.int .u64 0] 25);have HTa:=hd' (HT7.out.kept hba7);have HOa:=hd' (HO7.out.kept hba7);have HLa:=hd' (HL7.out.kept hba7);have HRa:=hd' (HR7.out.kept hba7);have HBa:=hd' (HB7.out.alloc hsz7 (.cells #[.int .i64 7,.int .i64 2,.int .i64 0,.int .i64 v8,.int .u64 0] 25));have hP7:=progAt_new [⟨7,2,0,v8,0⟩] #[.int .i64 7,.int .i64 2,.int .i64 0,.int .i64 v8,.int .u64 0] 1 25 w7 rfl rfl;have HP7:=hd' hP7
    have hN7:([⟨7,2,0,v8,0⟩]:List B.Ins)≠[]:=by simp
    have hza:Z≤(w7.alloc (.cells #[.int .i64 7,.int .i64 2,.int .i64 0,.int .i64 v8,.int .u64 0] 25)).heap.size:=by have:=own_blk HT7.out;simp;omega
    have hgo7:=own_blk HTa.out;have hgt7:=own_blk HOa.out;have hgl7:=own_blk HLa.out;have hgr7:=own_blk HRa.out;clear hP7 hba7 HT7 HO7 HL7 HR7 HB7
    go_upto_region 21 with(at_builtin;refine app_liesI rfl _ _ rfl Z rfl HTa.out rfl HP7.out hN7 (by omega) hza ?_;intro gT8 cT8 w8 hown8 hk8 hat8 hb8 hs8)
    have HT8:=hd' hown8;have HO8:=hd' (own_stays HOa.out (hk8 _ hgt7.2 (by omega)));have HL8:=hd' (own_stays HLa.out (hk8 _ hgl7.2 (by omega)));have HR8:=hd' (own_stays HRa.out (hk8 _ hgr7.2 (by omega)));have HB8:=hd' (HBa.out.trans (hb8.mono hZ));have hsz8:=HB8.out.size
    have hOT8:gO7≠gT8:=by rcases hat8 with h | h<;>omega
    clear hown8 hk8 hat8 hb8 HLa HRa HBa HOa HTa hgo7 hgt7 hgl7 hgr7 HP7 hN7 hza;have hba8:=(Below.refl w8.heap.size w8).alloc (lR' _) (.cells #[.int .i64 13,.int .i64 2,.int .i64 u,.int .i64 W,.int .u64 bm] 25);have HOa:=hd' (HO8.out.kept hba8);have HTa:=hd' (HT8.out.kept hba8);have HLa:=hd' (HL8.out.kept hba8);have HRa:=hd' (HR8.out.kept hba8);have HBa:=hd' (HB8.out.alloc hsz8 (.cells #[.int .i64 13,.int .i64 2,.int .i64 u,.int .i64 W,.int .u64 bm] 25));have hP8:=progAt_new [⟨13,2,u,W,bm⟩] #[.int .i64 13,.int .i64 2,.int .i64 u,.int .i64 W,.int .u64 bm] 1 25 w8 rfl rfl;have HP8:=hd' hP8
    have hN8:([⟨13,2,u,W,bm⟩]:List B.Ins)≠[]:=by simp
    have hza:Z≤(w8.alloc (.cells #[.int .i64 13,.int .i64 2,.int .i64 u,.int .i64 W,.int .u64 bm] 25)).heap.size:=by have:=own_blk HO8.out;simp;omega
    have hgo8:=own_blk HOa.out;have hgt8:=own_blk HTa.out;have hgl8:=own_blk HLa.out;have hgr8:=own_blk HRa.out;clear hP8 hba8 HO8 HT8 HL8 HR8 HB8
    go_upto_region 22 with(at_builtin;refine app_liesI rfl _ _ rfl Z rfl HOa.out rfl HP8.out hN8 (by omega) hza ?_;intro gO9 cO9 w9 hown9 hk9 hat9 hb9 hs9)
    have HO9:=hd' hown9;have HT9:=hd' (own_stays HTa.out (hk9 _ hgt8.2 (by omega)));have HL9:=hd' (own_stays HLa.out (hk9 _ hgl8.2 (by omega)));have HR9:=hd' (own_stays HRa.out (hk9 _ hgr8.2 (by omega)));have HB9:=hd' (HBa.out.trans (hb9.mono hZ));have hsz9:=HB9.out.size
    have hOT9:gO9≠gT8:=by rcases hat9 with h | h<;>omega
    clear hown9 hk9 hat9 hb9 HLa HRa HBa HOa HTa hgo8 hgt8 hgl8 hgr8 HP8 hN8 hza;have hba9:=(Below.refl w9.heap.size w9).alloc (lR' _) (.cells #[.int .i64 4,.int .i64 1,.int .i64 2,.int .i64 0,.int .u64 0,.int .i64 16,.int .i64 1,.int .i64 0,.int .i64 0,.int .u64 0] 25);have HTa:=hd' (HT9.out.kept hba9);have HOa:=hd' (HO9.out.kept hba9);have HLa:=hd' (HL9.out.kept hba9);have HRa:=hd' (HR9.out.kept hba9);have HBa:=hd' (HB9.out.alloc hsz9 (.cells #[.int .i64 4,.int .i64 1,.int .i64 2,.int .i64 0,.int .u64 0,.int .i64 16,.int .i64 1,.int .i64 0,.int .i64 0,.int .u64 0] 25));have hP9:=progAt_new [⟨4,1,2,0,0⟩,⟨16,1,0,0,0⟩] #[.int .i64 4,.int .i64 1,.int .i64 2,.int .i64 0,.int .u64 0,.int .i64 16,.int .i64 1,.int .i64 0,.int .i64 0,.int .u64 0] 2 25 w9 rfl rfl;have HP9:=hd' hP9
    have hN9:([⟨4,1,2,0,0⟩,⟨16,1,0,0,0⟩]:List B.Ins)≠[]:=by simp
    have hza:Z≤(w9.alloc (.cells #[.int .i64 4,.int .i64 1,.int .i64 2,.int .i64 0,.int .u64 0,.int .i64 16,.int .i64 1,.int .i64 0,.int .i64 0,.int .u64 0] 25)).heap.size:=by have:=own_blk HT9.out;simp;omega
    have hgo9:=own_blk HTa.out;have hgt9:=own_blk HOa.out;have hgl9:=own_blk HLa.out;have hgr9:=own_blk HRa.out;clear hP9 hba9 HT9 HO9 HL9 HR9 HB9
    go_upto_region 23 with(at_builtin;refine app_liesI rfl _ _ rfl Z rfl HTa.out rfl HP9.out hN9 (by omega) hza ?_;intro gT10 cT10 w10 hown10 hk10 hat10 hb10 hs10)
    have HT10:=hd' hown10;have HO10:=hd' (own_stays HOa.out (hk10 _ hgt9.2 (by omega)));have HL10:=hd' (own_stays HLa.out (hk10 _ hgl9.2 (by omega)));have HR10:=hd' (own_stays HRa.out (hk10 _ hgr9.2 (by omega)));have HB10:=hd' (HBa.out.trans (hb10.mono hZ));have hsz10:=HB10.out.size
    have hOT10:gO9≠gT10:=by rcases hat10 with h | h<;>omega
    clear hown10 hk10 hat10 hb10 HLa HRa HBa HOa HTa hgo9 hgt9 hgl9 hgr9 HP9 hN9 hza
    have HO9:Hid (OwnP w10 Z (some ⟨gO9,0,none⟩) 4 cO9 (B.oneP s (m+1))):=by
     have e:B.oneP s (m+1)=(([⟨15,1,0,0,0⟩,⟨2,2,1,0,0⟩]++[⟨6,2,0,v8,0⟩])++[⟨13,2,u,W,bm⟩]):=by
      unfold B.oneP;rw[HV8.out,HW1.out,HBM.out,HU.out];rw[if_pos h8];try rfl
     rw[e];exact hd' HO10.out
    have HT9:Hid (OwnP w10 Z (some ⟨gT10,0,none⟩) 6 cT10 (B.twoP s (m+1))):=by
     have e:B.twoP s (m+1)=(([⟨1,1,0,0,0⟩,⟨9,2,u,W,0⟩,⟨8,2,0,0,bm⟩]++[⟨7,2,0,v8,0⟩])++[⟨4,1,2,0,0⟩,⟨16,1,0,0,0⟩]):=by
      unfold B.twoP;rw[HV8.out,HW1.out,HBM.out,HU.out];rw[if_pos h8];try rfl
     rw[e];exact hd' HT10.out
    clear HO10 HT10;have HLM:=hd' (B.layP_may (s:=s) (n:=m) (by omega));have HRM:=hd' (B.readP_may (s:=s) (n:=m) (by omega));have HLW:Hid (∀y∈B.layP s (m+1),y.Wf):=hd' (fun y hy=>wf_right (B.layP_touch (by omega) y hy).1);have HRW:Hid (∀y∈B.readP s (m+1),y.Wf):=hd' (fun y hy=>wf_right (B.readP_touch (by omega) y hy).1);have HLF:=hd' (B.lay_fuse (s:=s) (n:=m) (by omega));have HRF:=hd' (B.read_fuse (s:=s) (n:=m) (by omega));clear h8;go_wp2_with fail;refine(fuse_yes (some ⟨gL,0,none⟩) nL cL HL10.out.capLe2 (B.layP s (m+1)) 8 1 _ HL10.out.progAt HLW.out (HR.out.below HB10.out (lR' _)) HLM.out).mono ?_;rintro e wa ⟨aoa,cpa,rfl,howna,hba⟩;rw[HLF.out]at howna⊢;have HOA:=hd' howna;have HBA:=hd' (HB10.out.trans (hba.mono hsz10));have hszA:=HBA.out.size;have HRA:=hd' (HR10.out.kept hba);have HO9a:=hd' (HO9.out.kept hba);have HT9a:=hd' (HT9.out.kept hba);clear howna hba;go_wp2_with fail
    refine(fuse_yes (some ⟨gR5,0,none⟩) (nR+1) cR5 HRA.out.capLe2 (B.readP s (m+1)) 8 1 _ HRA.out.progAt HRW.out (HR.out.below HBA.out (lR' _)) HRM.out).mono ?_;rintro e wb ⟨aob,cpb,rfl,hownb,hbb⟩;rw[HRF.out]at hownb⊢;have HOB:=hd' hownb;have HBB:=hd' (HBA.out.trans (hbb.mono hszA));have hszB:=HBB.out.size;have HOAb:=hd' (HOA.out.kept hbb);have HO9b:=hd' (HO9a.out.kept hbb);have HT9b:=hd' (HT9a.out.kept hbb);clear hownb hbb;go_wp2_with fail;refine(works18_any _ (HR.out.below HBB.out (lR' _))).mono ?_;rintro e wc ⟨rfl,hbc⟩;have HBC:=hd' (HBB.out.trans (hbc.mono hszB));have hszC:=HBC.out.size;have PA:=hd' (HOAb.out.progAt.below hbc (lR' _));have PB:=hd' (HOB.out.progAt.below hbc (lR' _));have P1:=hd' (HO9b.out.progAt.below hbc (lR' _));have P2:=hd' (HT9b.out.progAt.below hbc (lR' _))
    have hlo:(B.oneP s (m+1)).length≤9223372036854775807:=by rw[←HO9b.out.len];omega
    have hlt2:(B.twoP s (m+1)).length≤9223372036854775807:=by rw[←HT9b.out.len];omega
    clear hbc;go_wp2_with fail;refine(sameInstrs_yes aoa (some ⟨gO9,0,none⟩) _ cpa 4 cO9 (B.oneP s (m+1)) _ PA.out P1.out hlo).mono ?_;rintro e wd ⟨rfl,hbd⟩;have HBD:=hd' (HBC.out.trans (hbd.mono hszC));have hszD:=HBD.out.size;have PBd:=hd' (PB.out.below hbd (lR' _));have P2d:=hd' (P2.out.below hbd (lR' _));clear hbd;go_wp2_with fail;refine(sameInstrs_yes aob (some ⟨gT10,0,none⟩) _ cpb 6 cT10 (B.twoP s (m+1)) _ PBd.out P2d.out hlt2).mono ?_;rintro e we ⟨rfl,hbe⟩;have HBE:=hd' (HBD.out.trans (hbe.mono hszD));clear hbe;go_wp2_with fail;go_ret;exact⟨rfl,HBE.out⟩
   ·have g8:¬(0:Int)<(v8:Int):=by omega
    go_upto_region 21 with fail
    have hba6:=(Below.refl w6.heap.size w6).alloc (lR' _) (.cells #[.int .i64 13,.int .i64 2,.int .i64 u,.int .i64 W,.int .u64 bm] 25);have HOa:=hd' (HO6.out.kept hba6);have HTa:=hd' (HT6.out.kept hba6);have HLa:=hd' (HL6.out.kept hba6);have HRa:=hd' (HR6.out.kept hba6);have HBa:=hd' (HB6.out.alloc hsz6 (.cells #[.int .i64 13,.int .i64 2,.int .i64 u,.int .i64 W,.int .u64 bm] 25));have hP6:=progAt_new [⟨13,2,u,W,bm⟩] #[.int .i64 13,.int .i64 2,.int .i64 u,.int .i64 W,.int .u64 bm] 1 25 w6 rfl rfl;have HP6:=hd' hP6
    have hN6:([⟨13,2,u,W,bm⟩]:List B.Ins)≠[]:=by simp
    have hza:Z≤(w6.alloc (.cells #[.int .i64 13,.int .i64 2,.int .i64 u,.int .i64 W,.int .u64 bm] 25)).heap.size:=by have:=own_blk HO6.out;simp;omega
    have hgo6:=own_blk HOa.out;have hgt6:=own_blk HTa.out;have hgl6:=own_blk HLa.out;have hgr6:=own_blk HRa.out;clear hP6 hba6 HO6 HT6 HL6 HR6 HB6
    go_upto_region 22 with(at_builtin;refine app_liesI rfl _ _ rfl Z rfl HOa.out rfl HP6.out hN6 (by omega) hza ?_;intro gO7 cO7 w7 hown7 hk7 hat7 hb7 hs7)
    have HO7:=hd' hown7;have HT7:=hd' (own_stays HTa.out (hk7 _ hgt6.2 (by omega)));have HL7:=hd' (own_stays HLa.out (hk7 _ hgl6.2 (by omega)));have HR7:=hd' (own_stays HRa.out (hk7 _ hgr6.2 (by omega)));have HB7:=hd' (HBa.out.trans (hb7.mono hZ));have hsz7:=HB7.out.size
    have hOT7:gO7≠Z+1:=by rcases hat7 with h | h<;>omega
    clear hown7 hk7 hat7 hb7 HLa HRa HBa HOa HTa hgo6 hgt6 hgl6 hgr6 HP6 hN6 hza;have hba7:=(Below.refl w7.heap.size w7).alloc (lR' _) (.cells #[.int .i64 4,.int .i64 1,.int .i64 2,.int .i64 0,.int .u64 0,.int .i64 16,.int .i64 1,.int .i64 0,.int .i64 0,.int .u64 0] 25);have HTa:=hd' (HT7.out.kept hba7);have HOa:=hd' (HO7.out.kept hba7);have HLa:=hd' (HL7.out.kept hba7);have HRa:=hd' (HR7.out.kept hba7);have HBa:=hd' (HB7.out.alloc hsz7 (.cells #[.int .i64 4,.int .i64 1,.int .i64 2,.int .i64 0,.int .u64 0,.int .i64 16,.int .i64 1,.int .i64 0,.int .i64 0,.int .u64 0] 25));have hP7:=progAt_new [⟨4,1,2,0,0⟩,⟨16,1,0,0,0⟩] #[.int .i64 4,.int .i64 1,.int .i64 2,.int .i64 0,.int .u64 0,.int .i64 16,.int .i64 1,.int .i64 0,.int .i64 0,.int .u64 0] 2 25 w7 rfl rfl;have HP7:=hd' hP7
    have hN7:([⟨4,1,2,0,0⟩,⟨16,1,0,0,0⟩]:List B.Ins)≠[]:=by simp
    have hza:Z≤(w7.alloc (.cells #[.int .i64 4,.int .i64 1,.int .i64 2,.int .i64 0,.int .u64 0,.int .i64 16,.int .i64 1,.int .i64 0,.int .i64 0,.int .u64 0] 25)).heap.size:=by have:=own_blk HT7.out;simp;omega
    have hgo7:=own_blk HTa.out;have hgt7:=own_blk HOa.out;have hgl7:=own_blk HLa.out;have hgr7:=own_blk HRa.out;clear hP7 hba7 HT7 HO7 HL7 HR7 HB7
    go_upto_region 23 with(at_builtin;refine app_liesI rfl _ _ rfl Z rfl HTa.out rfl HP7.out hN7 (by omega) hza ?_;intro gT8 cT8 w8 hown8 hk8 hat8 hb8 hs8)
    have HT8:=hd' hown8;have HO8:=hd' (own_stays HOa.out (hk8 _ hgt7.2 (by omega)));have HL8:=hd' (own_stays HLa.out (hk8 _ hgl7.2 (by omega)));have HR8:=hd' (own_stays HRa.out (hk8 _ hgr7.2 (by omega)));have HB8:=hd' (HBa.out.trans (hb8.mono hZ));have hsz8:=HB8.out.size
    have hOT8:gO7≠gT8:=by rcases hat8 with h | h<;>omega
    clear hown8 hk8 hat8 hb8 HLa HRa HBa HOa HTa hgo7 hgt7 hgl7 hgr7 HP7 hN7 hza
    have HO9:Hid (OwnP w8 Z (some ⟨gO7,0,none⟩) 3 cO7 (B.oneP s (m+1))):=by
     have e:B.oneP s (m+1)=([⟨15,1,0,0,0⟩,⟨2,2,1,0,0⟩]++[⟨13,2,u,W,bm⟩]):=by
      unfold B.oneP;rw[HV8.out,HW1.out,HBM.out,HU.out];rw[if_neg h8];try rfl
     rw[e];exact hd' HO8.out
    have HT9:Hid (OwnP w8 Z (some ⟨gT8,0,none⟩) 5 cT8 (B.twoP s (m+1))):=by
     have e:B.twoP s (m+1)=([⟨1,1,0,0,0⟩,⟨9,2,u,W,0⟩,⟨8,2,0,0,bm⟩]++[⟨4,1,2,0,0⟩,⟨16,1,0,0,0⟩]):=by
      unfold B.twoP;rw[HV8.out,HW1.out,HBM.out,HU.out];rw[if_neg h8];try rfl
     rw[e];exact hd' HT8.out
    clear HO8 HT8;have HLM:=hd' (B.layP_may (s:=s) (n:=m) (by omega));have HRM:=hd' (B.readP_may (s:=s) (n:=m) (by omega));have HLW:Hid (∀y∈B.layP s (m+1),y.Wf):=hd' (fun y hy=>wf_right (B.layP_touch (by omega) y hy).1);have HRW:Hid (∀y∈B.readP s (m+1),y.Wf):=hd' (fun y hy=>wf_right (B.readP_touch (by omega) y hy).1);have HLF:=hd' (B.lay_fuse (s:=s) (n:=m) (by omega));have HRF:=hd' (B.read_fuse (s:=s) (n:=m) (by omega));clear h8;go_wp2_with fail;refine(fuse_yes (some ⟨gL,0,none⟩) nL cL HL8.out.capLe2 (B.layP s (m+1)) 8 1 _ HL8.out.progAt HLW.out (HR.out.below HB8.out (lR' _)) HLM.out).mono ?_;rintro e wa ⟨aoa,cpa,rfl,howna,hba⟩;rw[HLF.out]at howna⊢;have HOA:=hd' howna;have HBA:=hd' (HB8.out.trans (hba.mono hsz8));have hszA:=HBA.out.size;have HRA:=hd' (HR8.out.kept hba);have HO9a:=hd' (HO9.out.kept hba);have HT9a:=hd' (HT9.out.kept hba);clear howna hba;go_wp2_with fail
    refine(fuse_yes (some ⟨gR5,0,none⟩) (nR+1) cR5 HRA.out.capLe2 (B.readP s (m+1)) 8 1 _ HRA.out.progAt HRW.out (HR.out.below HBA.out (lR' _)) HRM.out).mono ?_;rintro e wb ⟨aob,cpb,rfl,hownb,hbb⟩;rw[HRF.out]at hownb⊢;have HOB:=hd' hownb;have HBB:=hd' (HBA.out.trans (hbb.mono hszA));have hszB:=HBB.out.size;have HOAb:=hd' (HOA.out.kept hbb);have HO9b:=hd' (HO9a.out.kept hbb);have HT9b:=hd' (HT9a.out.kept hbb);clear hownb hbb;go_wp2_with fail;refine(works18_any _ (HR.out.below HBB.out (lR' _))).mono ?_;rintro e wc ⟨rfl,hbc⟩;have HBC:=hd' (HBB.out.trans (hbc.mono hszB));have hszC:=HBC.out.size;have PA:=hd' (HOAb.out.progAt.below hbc (lR' _));have PB:=hd' (HOB.out.progAt.below hbc (lR' _));have P1:=hd' (HO9b.out.progAt.below hbc (lR' _));have P2:=hd' (HT9b.out.progAt.below hbc (lR' _))
    have hlo:(B.oneP s (m+1)).length≤9223372036854775807:=by rw[←HO9b.out.len];omega
    have hlt2:(B.twoP s (m+1)).length≤9223372036854775807:=by rw[←HT9b.out.len];omega
    clear hbc;go_wp2_with fail;refine(sameInstrs_yes aoa (some ⟨gO7,0,none⟩) _ cpa 3 cO7 (B.oneP s (m+1)) _ PA.out P1.out hlo).mono ?_;rintro e wd ⟨rfl,hbd⟩;have HBD:=hd' (HBC.out.trans (hbd.mono hszC));have hszD:=HBD.out.size;have PBd:=hd' (PB.out.below hbd (lR' _));have P2d:=hd' (P2.out.below hbd (lR' _));clear hbd;go_wp2_with fail;refine(sameInstrs_yes aob (some ⟨gT8,0,none⟩) _ cpb 5 cT8 (B.twoP s (m+1)) _ PBd.out P2d.out hlt2).mono ?_;rintro e we ⟨rfl,hbe⟩;have HBE:=hd' (HBD.out.trans (hbe.mono hszD));clear hbe;go_wp2_with fail;go_ret;exact⟨rfl,HBE.out⟩
end LawFuseRow
end Go.Proofs.YtpibampaobncaaaGreatDoor
