/- The document's answer for layer 8: where a signal's bits lie. -/
import Derived.Test.YtljhklblbafjkaaGreatDoorNcY
import Derived.Laws.AppendOwnNone
import Derived.Test.YtljhklblbafjkaaGreatDoorLwO
import Derived.Test.YtljhklblbafjkaaGreatDoorLoQ
import Derived.Test.YtljhklblbafjkaaGreatDoorUnQ
import Derived.Test.YtljhklblbafjkaaGreatDoorLwG
open Go.Lib renaming hid→hd'
open Nat renaming le_refl→lR'
namespace Go.Proofs.YtljhklblbafjkaaGreatDoor
open Go.RowKit
namespace Code
attribute [local go_sem ↓] Go.wp_at_zero Go.wp_at_succ
theorem ownV_new{E:TypeId}(v:Value)(w:World){base:Nat}(hb:base≤w.heap.size):One.OwnV E (w.alloc (.cells #[v] E)) base (some ⟨w.heap.size,0,none⟩) 1 1 [v]:=
 ⟨rfl,rfl,.inr ⟨w.heap.size,1,#[v],rfl,hb,heap_alloc_new w _,lR' _,by unfold maxLen;omega,rfl,rfl⟩⟩
theorem app_list{T E:TypeId}{z:Value}{bytes:Nat}(hu:Tryz.prog.underlying T=some (.slice E))(hinfo:(Tryz.prog.info? E).map (fun i=>(i.zero,i.size,i.bytes))=some (some z,1,bytes))(hzs:z.cells.size=1)
    {ops:Array Oper} {rest:List Oper} {o:Oper} {a:Act} {Q:Exit→Act→World→Prop} {w:World} (hgd:o.guard=none) (s x:Operand)
    (ho:o.op= .call { callee:=.builtin .append,args:= #[s,x],argTypes:= #[T,T]})
    (base:Nat) {ao:Option Addr} {n cap:Nat} {vs:List Value} (hs:a.eval s= .slice ao n cap) (hown:One.OwnV E w base ao n cap vs)
    {a2:Option Addr} {m c2:Nat} {ws:List Value} (hx:a.eval x= .slice a2 m c2) (hl:ListAt w a2 m ws) (hones:∀u∈ws,u.oneCell'=true) (hnil:a2=none→c2=0) (hmax:n+m≤1000000) (hbytes:(n+m)*bytes≤140737488355328) (hbase:base≤w.heap.size)
    (h:∀ao' cap' w',One.OwnV E w' base ao' (n+m) cap' (vs++ws)→Below base w w'→wpList Tryz.prog ops Q rest (a.put o.dst (.slice ao' (n+m) cap')) w'):
    wpList Tryz.prog ops Q (o::rest) a w:=by
 obtain⟨i,hi,hz0,hz1,hz2⟩:=info_parts hinfo;have hlt:=hown.own.lt
 cases a2 with
 | none=>
  have hws:ws=[]:=by
   cases ws with
   | nil=>rfl
   | cons u l=>
    obtain⟨b,off,e,_⟩:=hl.at_ 0 u rfl;cases e
  subst hws;obtain rfl:m=0:=hl.len;obtain rfl:=hnil rfl;refine wpList_append_own_none hgd s x T ho base E i 1 hu hi _ n vs hs hown.own hx ?_;exact h ao cap w (by rw[List.append_nil];exact hown) (Below.refl _ _)
 | some ad=>
  refine wpList_append_own _ hgd s x T ho base E i z 1 bytes hu hi hz0 hz1 hz2 hzs (by decide) _ n vs hs hown.own ad m c2 ws hx (by rw[Nat.mul_one];exact hl.len.symm) hl.news hones (by simp only[maxLen];omega) hbytes hbase ?_;intro v' w' hown' hg hv;have hb:Below base w w':=(Below.refl base w).grown hg hbase (fun k hk=>(hlt k hk).1)
  have hlen:n+m=(vs++ws).length:=by rw[List.length_append,←hown.len,←hl.len]
  rcases hown'.2 with⟨hv0,hn⟩ | ⟨g,cap',cur,rfl,rest'⟩
  ·subst hv0
   have hm:n+m=0:=hn;have e:=h none 0 w' ⟨hlen,by rw[hm]at hown'⊢;exact hown'⟩ hb;rw[hm]at e;exact e
  ·exact h _ _ _ ⟨hlen,hown'⟩ hb
theorem next_any(b:Nat)(w:World)(hb:b≤1000):Calls Tryz.prog 94 #[.int .i64 (b:Int)] w (fun e w'=>e= .returned (.int .i64 ((B.nextB true b:Nat):Int))∧w=w'):=by
 unfold B.nextB;rw[if_pos rfl]
 by_cases h:b%8=0
 ·have e1:((b:Int)%8==0)=true:=by simp;omega
  rw[if_pos h];clear h;go_enter Tryz.func94,Tryz.ntmps94;go_wp2_with fail;go_ret;exact⟨by simp,rfl⟩
 ·have e1:((b:Int)%8==0)=false:=by simp;omega
  rw[if_neg h]
  have e2:((b-1:Nat):Int)=(b:Int)-1:=by omega
  rw[e2];clear h e2;go_enter Tryz.func94,Tryz.ntmps94;go_wp2_with fail;go_ret;exact⟨by simp,rfl⟩
def rowV(moto:Bool)(L:List Nat):List Nat:=if moto=true then L.reverse else L
def RBitsOut(s:B.Sig)(w:World)(e:Ending)(w':World):Prop:=
 (s.placeNo=0→∃ao cap,e= .returned (.tuple #[.slice ao s.bits.length cap,.int .i64 0])∧One.OwnV 3 w' w.heap.size ao s.bits.length cap (s.bits.map natV)∧Below w.heap.size w w')∧
 (s.placeNo≠0→e= .returned (.tuple #[.slice none 0 0,.int .i64 s.placeNo])∧Below w.heap.size w w')
structure RbIn(s:B.Sig)(tv:Value)(b k c cap:Nat)(ao:Option Addr)(w wr:World):Prop where
 own:One.OwnV 3 wr (w.heap.size+1) ao k cap ((rowV s.moto (B.rowFrom s.moto b k)).map natV)
 row:RC wr w.heap.size 71 19 (sigC s tv)
 bel:Below w.heap.size w wr
 low:∀b'∈B.rowFrom s.moto b k,b'≤63
 cur:Nat.repeat (B.nextB s.moto) k b=c
theorem next78{moto:Bool}{c:Nat}(h:c≤63):B.nextB moto c≤78:=by
 unfold B.nextB;split
 ·split<;>omega
 ·omega
set_option maxRecDepth 100000 in
set_option maxHeartbeats 3200000 in
theorem rbits_loop(s:B.Sig)(tv:Value)(w:World)(b n:Nat)(hb:s.start=(b:Int))(hn:s.size=(n:Int))(hb63:b≤63)(hn1:1≤n)(hn64:n≤64):Calls Tryz.prog 63 #[.agg (sigC s tv)] w (RBitsOut s w):=by
 have hplace:s.placeNo=if(B.rowFrom s.moto b n).all (fun b=>decide (b≤63))=true then 0 else 16:=by
  unfold B.Sig.placeNo;rw[if_neg (by omega),if_neg (by omega),hb,hn,Int.toNat_natCast,Int.toNat_natCast]
 have hbits:s.bits=rowV s.moto (B.rowFrom s.moto b n):=by
  unfold B.Sig.bits rowV;rw[hb,hn,Int.toNat_natCast,Int.toNat_natCast]
 have hrow:=RC.new (sigC s tv) 71 w (n:=19) rfl rfl;have hbel:Below w.heap.size w (w.alloc (.cells (sigC s tv) 71)):=(Below.refl _ _).alloc (lR' _) _;obtain⟨w1,hw1⟩:∃w1,w.alloc (.cells (sigC s tv) 71)=w1:=⟨_,rfl⟩;rw[hw1]at hrow hbel;have k4:w1.cell? ⟨w.heap.size,5,none⟩=some (.int .i64 (b:Int)):=hrow.cell (j:=5) (by unfold sigC;rw[hb];rfl);have k5:w1.cell? ⟨w.heap.size,6,none⟩=some (.int .i64 (n:Int)):=hrow.cell (j:=6) (by unfold sigC;rw[hn];rfl);have HP:=hd' hplace;have HBI:=hd' hbits;have HSN:=hd' hn;have HROW:=hd' hrow;have HB:=hd' hbel;clear hplace hbits hrow hbel hb hn
 have e1:((n:Int)<1)=False:=by simp;omega
 have e2:((64:Int)<n)=False:=by simp;omega
 have e3:((b:Int)<0)=False:=by simp
 have e4:((63:Int)<b)=False:=by simp;omega
 go_enter Tryz.func63,Tryz.ntmps63
 go_upto_region 1 with fail
 try rw[hw1]
 clear hw1;go_wp2_with fail;clear k4 k5
 go_loopw [4,5,6] (fun l bv i wr=>∃(k c cap:Nat) (ao:Option Addr),k≤n∧c≤78∧i= .int .i64 (k:Int)∧bv= .int .i64 (c:Int)∧l= .slice ao k cap∧Hid (RbIn s tv b k c cap ao w wr)) (fun _ _ i _=>n-(intOf i).toNat)
 case atStart=>exact⟨0,b,0,none,by omega,by omega,rfl,rfl,rfl,hd' ⟨by unfold rowV;split<;>exact One.OwnV.nil _ _ _,HROW.out,HB.out,fun b' hb'=>by simp[B.rowFrom]at hb',rfl⟩⟩
 case round=>
  obtain⟨k,c,cap,ao,hk,hc78,rfl,rfl,rfl,HK⟩:=hrel;clear HROW HB;have k5:wr.cell? ⟨w.heap.size,6,none⟩=some (.int .i64 (n:Int)):=HK.out.row.cell (j:=6) (by unfold sigC;rw[HSN.out];rfl);have k6:wr.cell? ⟨w.heap.size,7,none⟩=some (.bool s.moto):=HK.out.row.cell (j:=7) rfl
  by_cases hlt:k<n
  ·have e5:((k:Int)<n)=True:=by simp;omega
   by_cases h63:c≤63
   ·have e6:((63:Int)<c)=False:=by simp;omega
    have hz:w.heap.size+1≤wr.heap.size:=HK.out.row.blk
    have hlow2:Hid (∀b'∈B.rowFrom s.moto b (k+1),b'≤63):=hd' (fun b' hb'=>by
     rw[B.rowFrom_snoc,HK.out.cur]at hb';rcases List.mem_append.1 hb' with h1 | h1
     ·exact HK.out.low b' h1
     ·rw[List.mem_singleton.1 h1];exact h63)
    have hcur2:Hid (Nat.repeat (B.nextB s.moto) (k+1) b=B.nextB s.moto c):=hd' (by rw[←HK.out.cur];rfl);have H78:Hid (B.nextB s.moto c≤78):=hd' (next78 h63)
    have hrow2:B.rowFrom s.moto b (k+1)=B.rowFrom s.moto b k++[c]:=by rw[B.rowFrom_snoc,HK.out.cur]
    have HROW2:=hd' hrow2;clear hrow2 h63
    cases hm:s.moto with
    | true=>
     rw[hm]at k6;have HM:=hd' hm;have hnew:=ownV_new (E:=3) (natV c) wr (base:=w.heap.size+1) hz;have hb1:Below (w.heap.size+1) wr (wr.alloc (.cells #[natV c] 3)):=(Below.refl _ _).alloc hz _;have hlist:=(ListAt.ofOwn HK.out.own.own).below ((Below.refl _ _).alloc (lR' _) (.cells #[natV c] 3)) (lR' _)
     have hnil:ao=none→cap=0:=fun e=>by
      rcases HK.out.own.form with⟨_,_,h⟩ | ⟨g,h,_⟩
      ·exact h
      ·rw[h]at e;cases e
     have hones:∀u∈(rowV s.moto (B.rowFrom s.moto b k)).map natV,u.oneCell'=true:=fun u hu=>by
      obtain⟨x,_,rfl⟩:=List.mem_map.1 hu;rfl
     have hz1:w.heap.size+1≤(wr.alloc (.cells #[natV c] 3)).heap.size:=Nat.le_trans hz hb1.size;have HNEW:=hd' hnew;have HBB:=hd' hb1;have HLI:=hd' hlist;have HNIL:=hd' hnil;have HON:=hd' hones;have HZ1:=hd' hz1
     have hnx:=fun w=>next_any c w (by omega)
     clear hm hnew hb1 hlist hnil hones hz1
     go_upto_region 14 with(at_builtin;refine app_list Tryz.underlying100 infoI3 (by rfl) rfl _ _ rfl (w.heap.size+1) rfl HNEW.out rfl HLI.out HON.out HNIL.out (by omega) (by omega) HZ1.out ?_;intro ao5 cap5 w5 hown5 hb5)
     have hb5':=HBB.out.trans hb5;have HOW5:=hd' hown5;have HB5:=hd' hb5';clear hown5 hb5 hb5';go_wp2_with fail;refine(hnx _).mono ?_;rintro e w6 ⟨rfl,rfl⟩;clear hnx;go_wp2_with fail;go_roundw
     case rel=>
      refine⟨k+1,B.nextB true c,cap5,ao5,by omega,by rw[←HM.out];exact H78.out,by go_num,rfl,by rw[Nat.add_comm k 1],hd' ⟨?_,RC.of HK.out.row (HB5.out.block _ (Nat.lt_succ_self _)),HK.out.bel.trans (HB5.out.mono (Nat.le_succ _)),hlow2.out,by rw[hcur2.out,HM.out]⟩⟩;rw[HROW2.out,Nat.add_comm k 1];have h:=HOW5.out
      have e:(rowV s.moto (B.rowFrom s.moto b k++[c])).map natV=[natV c]++(rowV s.moto (B.rowFrom s.moto b k)).map natV:=by
       unfold rowV;rw[if_pos HM.out,if_pos HM.out,List.reverse_append];rfl
      rw[e];exact h
     case measure=>simp[intOf];omega
    | false=>
     rw[hm]at k6;have HM:=hd' hm;clear hm
     go_upto_region 16 with(at_builtin;refine One.app_one Tryz.underlying100 infoI3 (by rfl) rfl _ _ rfl (w.heap.size+1) rfl HK.out.own (by rfl) rfl (by omega) (by omega) hz ?_;intro ao5 cap5 w5 hown5 hkeep5 hwh5 hb5)
     have HOW5:=hd' hown5;have HB5:=hd' hb5;clear hown5 hkeep5 hwh5 hb5;go_wp2_with fail;go_roundw
     case rel=>
      refine⟨k+1,c+1,cap5,ao5,by omega,by have h:=H78.out;rw[HM.out]at h;exact h,by go_num,by go_num,rfl,hd' ⟨?_,RC.of HK.out.row (HB5.out.block _ (Nat.lt_succ_self _)),HK.out.bel.trans (HB5.out.mono (Nat.le_succ _)),hlow2.out,by rw[hcur2.out,HM.out];rfl⟩⟩;rw[HROW2.out];have h:=HOW5.out
      have e:(rowV s.moto (B.rowFrom s.moto b k++[c])).map natV=(rowV s.moto (B.rowFrom s.moto b k)).map natV++[natV c]:=by
       unfold rowV;rw[if_neg (by rw[HM.out];simp),if_neg (by rw[HM.out];simp),List.map_append];rfl
      rw[e];exact h
     case measure=>simp[intOf];omega
   ·have e6:((63:Int)<c)=True:=by simp;omega
    have hno:s.placeNo=16:=by
     rw[HP.out,if_neg];intro h;have:=List.all_eq_true.1 h c (by rw[←HK.out.cur];exact repeat_bound s.moto b k n hlt);simp at this;exact h63 this
    have HNO:=hd' hno;clear h63 hno k6;go_wp2_with fail;go_ret2;refine⟨fun h=> ?_,fun _=>⟨by rw[HNO.out];simp,HK.out.bel⟩⟩;rw[HNO.out]at h;cases h
  ·obtain rfl:k=n:=by omega
   have e5:((k:Int)<k)=False:=by simp
   have hp0:s.placeNo=0:=by
    rw[HP.out,if_pos];exact List.all_eq_true.2 (fun b' hb'=>by simpa using HK.out.low b' hb')
   have hbl:s.bits.length=k:=by rw[s.bits_length,HSN.out,Int.toNat_natCast]
   have HP0:=hd' hp0;have HBL:=hd' hbl;clear hp0 hbl k6;go_wp2_with fail;go_ret2;refine⟨fun _=>⟨ao,cap,by simp[HBL.out], ?_,HK.out.bel⟩,fun h=>absurd HP0.out h⟩;rw[HBL.out,HBI.out];exact HK.out.own.weaken (Nat.le_succ _)
theorem rbits_no(s:B.Sig)(tv:Value)(w:World)(h:s.placeNo≠0)(hx:¬(¬(s.size<1∨64<s.size)∧¬(s.start<0∨63<s.start))):Calls Tryz.prog 63 #[.agg (sigC s tv)] w (RBitsOut s w):=by
 obtain⟨no,hno⟩:∃no,s.placeNo=no:=⟨_,rfl⟩;unfold RBitsOut;rw[hno]at h⊢;unfold B.Sig.placeNo at hno;have hbel:Below w.heap.size w (w.alloc (.cells (sigC s tv) 71)):=(Below.refl _ _).alloc (lR' _) _;have HB:=hd' hbel;have HNE:=hd' h;clear hbel h
 by_cases h1:s.size<1∨64<s.size
 ·rw[if_pos h1]at hno
  subst hno;rcases Classical.em (s.size<1)with h2 | h2
  ·have e1:(s.size<1)=True:=by simp[h2]
   clear h1 h2;unfold sigC at*;go_enter Tryz.func63,Tryz.ntmps63;go_wp2_with fail;go_ret2;exact⟨fun h=>absurd h HNE.out,fun _=>⟨by simp,HB.out⟩⟩
  ·have e1:(s.size<1)=False:=by simp[h2]
   have e2:(64<s.size)=True:=by simp;omega
   clear h1 h2;unfold sigC at*;go_enter Tryz.func63,Tryz.ntmps63;go_wp2_with fail;go_ret2;exact⟨fun h=>absurd h HNE.out,fun _=>⟨by simp,HB.out⟩⟩
 ·rw[if_neg h1]at hno
  have e1:(s.size<1)=False:=by simp;omega
  have e2:(64<s.size)=False:=by simp;omega
  by_cases h3:s.start<0∨63<s.start
  ·rw[if_pos h3]at hno
   subst hno;rcases Classical.em (s.start<0)with h2 | h2
   ·have e3:(s.start<0)=True:=by simp[h2]
    clear h1 h2 h3;unfold sigC at*;go_enter Tryz.func63,Tryz.ntmps63;go_wp2_with fail;go_ret2;exact⟨fun h=>absurd h HNE.out,fun _=>⟨by simp,HB.out⟩⟩
   ·have e3:(s.start<0)=False:=by simp[h2]
    have e4:(63<s.start)=True:=by simp;omega
    clear h1 h2 h3;unfold sigC at*;go_enter Tryz.func63,Tryz.ntmps63;go_wp2_with fail;go_ret2;exact⟨fun h=>absurd h HNE.out,fun _=>⟨by simp,HB.out⟩⟩
  ·exact absurd ⟨h1,h3⟩ hx
theorem rbits_any(s:B.Sig)(tv:Value)(w:World):Calls Tryz.prog 63 #[.agg (sigC s tv)] w (RBitsOut s w):=by
 by_cases hx:¬(s.size<1∨64<s.size)∧¬(s.start<0∨63<s.start)
 ·exact rbits_loop s tv w s.start.toNat s.size.toNat (by omega) (by omega) (by omega) (by omega) (by omega)
 ·have hne:s.placeNo≠0:=by
    unfold B.Sig.placeNo
    by_cases h1:s.size<1∨64<s.size
    ·rw[if_pos h1];decide
    ·rw[if_neg h1]
     by_cases h2:s.start<0∨63<s.start
     ·rw[if_pos h2];decide
     ·exact absurd ⟨h1,h2⟩ hx
  exact rbits_no s tv w hne hx
end Code
end Go.Proofs.YtljhklblbafjkaaGreatDoor
namespace Go.Proofs.YtljhklblbafjkaaGreatDoor
open Go.RowKit
namespace Code
attribute [local go_sem ↓] Go.wp_at_zero Go.wp_at_succ
def faultC(no l c:Int):Array Value:=if no=0 then #[.int .i64 0,.int .i64 0,.int .i64 0]else #[.int .i64 no,.int .i64 l,.int .i64 c]
theorem infoFa:(Tryz.prog.info? 36).map (·.size)=some 3:=by kernel_rfl
theorem retFault{fn:Func}{p:Nat}(hr:fn.results= #[.cell p 36]){tmps:Array Value}{wz:World}{R:Nat}{C:Array Value}(hp:tmps.getD p undef= .pointer (some ⟨R,0,none⟩))(hm:RC wz R 36 3 C):(results fn tmps).run Tryz.prog wz= .ok (.agg C) wz:=
 results_cell hr hp (run_loadVar_mid (P:=Tryz.prog) wz R 0 36 C.toList _ (RC.range hm) Tryz.underlying36 rfl (by rw[infoFa,Array.length_toList,hm.2]))
set_option maxRecDepth 100000 in
set_option maxHeartbeats 1600000 in
theorem rat_any(no l c:Int)(w:World):Calls Tryz.prog 28 #[.int .i64 no,.agg #[.int .i64 l,.int .i64 c]] w (fun e w'=>e= .returned (.agg (faultC no l c))∧Below w.heap.size w w'):=by
 have hrow:=RC.new #[.int .i64 l,.int .i64 c] 23 w (n:=2) rfl rfl;have hbel:Below w.heap.size w (w.alloc (.cells #[.int .i64 l,.int .i64 c] 23)):=(Below.refl _ _).alloc (lR' _) _;obtain⟨w1,hw1⟩:∃w1,w.alloc (.cells #[.int .i64 l,.int .i64 c] 23)=w1:=⟨_,rfl⟩;rw[hw1]at hrow hbel;have hres:=RC.new #[.int .i64 0,.int .i64 0,.int .i64 0] 36 w1 (n:=3) rfl rfl;have hb12:Below w1.heap.size w1 (w1.alloc (.cells #[.int .i64 0,.int .i64 0,.int .i64 0] 36)):=(Below.refl _ _).alloc (lR' _) _;obtain⟨w2,hw2⟩:∃w2,w1.alloc (.cells #[.int .i64 0,.int .i64 0,.int .i64 0] 36)=w2:=⟨_,rfl⟩;rw[hw2]at hres hb12;have hr2:=hrow.low hb12 hrow.blk;have k0:w2.cell? ⟨w.heap.size,0,none⟩=some (.int .i64 l):=hr2.cell (j:=0) rfl;have k1:w2.cell? ⟨w.heap.size,1,none⟩=some (.int .i64 c):=hr2.cell (j:=1) rfl
 have HB:=hd' (hbel.trans (hb12.mono hbel.size));have HRES:=hd' hres;have HZ:Hid (w.heap.size≤w1.heap.size):=hd' hbel.size;have hth:=hres.there;clear hrow hbel hres hb12 hr2;unfold faultC
 by_cases h:no=0
 ·have e1:(no==0)=true:=by simp[h]
  rw[if_pos h];clear h;go_enter Tryz.func28,Tryz.ntmps28
  go_upto_region 1 with fail
  try rw[hw1]
  try rw[hw2]
  clear hw1 hw2;go_wp2_with (refine wpList_store_mid rfl 36 (.tmp 4) (.tmp 7) rfl w1.heap.size 0 #[.int .i64 0,.int .i64 0,.int .i64 0] rfl rfl hth infoFa (by simp[Value.oneCell']) ?_;generalize hw3:World.setCells _ _ _ _=w3)
  have hrx:RC w3 w1.heap.size 36 3 #[.int .i64 0,.int .i64 0,.int .i64 0]:=by
   rw[←hw3];exact HRES.out.store _ rfl
  have HBX:Hid (Below w.heap.size w w3):=hd' (by
   rw[←hw3]
   exact below_put HB.out (grownBy_setCells _ _ _ _) HZ.out HB.out.size)
  clear hw3;exact bodyPost_ret (v:=.agg #[.int .i64 0,.int .i64 0,.int .i64 0]) (retFault (p:=4) (by kernel_rfl) rfl hrx) rfl ⟨rfl,HBX.out⟩
 ·have e1:(no==0)=false:=by simp[h]
  rw[if_neg h];clear h;go_enter Tryz.func28,Tryz.ntmps28
  go_upto_region 1 with fail
  try rw[hw1]
  try rw[hw2]
  clear hw1 hw2;go_wp2_with (refine wpList_store_mid rfl 36 (.tmp 4) (.tmp 10) rfl w1.heap.size 0 #[.int .i64 no,.int .i64 l,.int .i64 c] rfl rfl hth infoFa (by simp[Value.oneCell']) ?_;generalize hw3:World.setCells _ _ _ _=w3)
  have hrx:RC w3 w1.heap.size 36 3 #[.int .i64 no,.int .i64 l,.int .i64 c]:=by
   rw[←hw3];exact HRES.out.store _ rfl
  have HBX:Hid (Below w.heap.size w w3):=hd' (by
   rw[←hw3]
   exact below_put HB.out (grownBy_setCells _ _ _ _) HZ.out HB.out.size)
  clear hw3;exact bodyPost_ret (v:=.agg #[.int .i64 no,.int .i64 l,.int .i64 c]) (retFault (p:=4) (by kernel_rfl) rfl hrx) rfl ⟨rfl,HBX.out⟩
set_option maxHeartbeats 1600000 in
theorem r9fits_any(v n:Nat)(sg:Bool)(w:World)(hv:v<18446744073709551616)(h1:1≤n)(h64:n≤64):
    Calls Tryz.prog 31 #[.int .u64 (v:Int),.int .i64 (n:Int),.bool sg] w fun e w'=>e= .returned (.bool (B.fits v n sg))∧w=w':=by
 have hf:=B.fits_hi hv h1 h64 sg
 have e1:((n:Int)<1)=False:=by simp;omega
 have e2:((64:Int)<n)=False:=by simp;omega
 have e3:IntKind.i64.wrap ((n:Int)-1)=((n-1:Nat):Int):=by rw[IntKind.wrap_i64];omega
 have hq:((v:Int)/2^(n-1))=((v/2^(n-1):Nat):Int):=by simp
 have hq2:((18446744073709551615:Int)/2^(n-1))=((18446744073709551615/2^(n-1):Nat):Int):=by simp
 have HQ:=hd' hq;have HF:=hd' hf
 cases sg with
 | false=>
  clear hf hq hq2;go_enter Tryz.func31,Tryz.ntmps31;go_wp2_with fail;go_ret;refine⟨ret_bool ?_,rfl⟩;rw[HF.out,if_neg (by simp),HQ.out];exact decide_eq_decide.2 (by omega)
 | true=>
  rw[if_pos rfl]at hf;have HF2:=hd' hf
  by_cases hz:v/2^(n-1)=0
  ·have e4:((v:Int)/2^(n-1)==0)=true:=by rw[hq,hz];rfl
   have HE:Hid (B.fits v n true=true):=hd' (by rw[HF2.out,hz];simp);clear hf hq hq2 hz;go_enter Tryz.func31,Tryz.ntmps31;go_wp2_with fail;go_ret;exact⟨by rw[HE.out];rfl,rfl⟩
  ·have e4:((v:Int)/2^(n-1)==0)=false:=by rw[hq];simp only[beq_eq_false_iff_ne,ne_eq];omega
   have HE:Hid (B.fits v n true=((v:Int)/2^(n-1)==18446744073709551615/2^(n-1))):=hd' (by
    rw[HF2.out,decide_eq_false hz,Bool.false_or,hq,hq2,Bool.eq_iff_iff];simp only[decide_eq_true_eq,beq_iff_eq]
    omega)
   clear hf hq hq2 hz;go_enter Tryz.func31,Tryz.ntmps31;go_wp2_with fail;go_ret;exact⟨by rw[HE.out];rfl,rfl⟩
theorem SigsAt.get{w:World}{sa:Option Addr}{n:Nat}{l:List B.Sig}(h:SigsAt w sa n l){i:Nat}{s:B.Sig}(hs:l[i]? =some s):∃b off a k cap,sa=some ⟨b,off,none⟩∧b<w.heap.size∧
    w.rangeAt b (off+i*19) (sigC s (.slice a k cap)).toList∧ListAt w a k (s.dest.map Value.string)∧k≤9223372036854775807:=by
 obtain⟨b,off,e,hb,a,k,cap,h1,h2,h3⟩:=h.at_ i s hs;exact⟨b,off,a,k,cap,e,hb,h1,h2,h3⟩
def noMux(l:List B.Sig)(k:Nat):Prop:=∀i s,i<k→l[i]? =some s→s.role≠1
theorem muxZ_at{l:List B.Sig}{k n:Nat}{s:B.Sig}(h:noMux l k)(hs:l[k]? =some s)(hr:s.role=1)(hn:k<n):B.muxZ (l.take n)=(k:Int):=by
 have hm:B.muxI (l.take n)=some k:=by
  rw[B.muxI_def,List.find?_range_eq_some];have hlen:=(List.getElem?_eq_some_iff.1 hs).1;refine⟨?_,List.mem_range.2 (by rw[List.length_take];omega),fun j hj=> ?_⟩
  ·unfold B.isMuxAt
   rw[List.getElem?_take,if_pos hn,hs];simpa using hr
  ·unfold B.isMuxAt
   rw[List.getElem?_take,if_pos (by omega),List.getElem?_eq_getElem (by omega)];have:=h j _ hj (List.getElem?_eq_getElem (by omega));simpa using this
 unfold B.muxZ;rw[hm]
theorem muxZ_no{l:List B.Sig}{n:Nat}(h:noMux l n):B.muxZ (l.take n)= -1:=by
 have hm:B.muxI (l.take n)=none:=by
  cases e:B.muxI (l.take n)with
  | none=>rfl
  | some i=>
   exfalso;obtain⟨s,hs,hr⟩:=B.muxI_some e;rw[List.getElem?_take]at hs;split at hs
   ·exact h i s (by assumption) hs hr
   ·cases hs
 unfold B.muxZ;rw[hm]
set_option maxRecDepth 100000 in
set_option maxHeartbeats 1600000 in
theorem rmux_any(sa:Option Addr)(len cap n:Nat)(l:List B.Sig)(w:World)(hl:SigsAt w sa len l)(hn:n≤len)(h64:len≤1000000):
    Calls Tryz.prog 30 #[.slice sa len cap,.int .i64 (n:Int)] w (fun e w'=>e= .returned (.int .i64 (B.muxZ (l.take n)))∧w=w'):=by
 have HL:=hd' hl;have HLE:=hd' hl.len;obtain⟨ans,hans⟩:∃ans,B.muxZ (l.take n)=ans:=⟨_,rfl⟩;rw[hans];have HA:=hd' hans;clear hl hans;go_enter Tryz.func30,Tryz.ntmps30;go_wp2_with fail
 go_loop [5] (fun i=>∃k:Nat,k≤n∧i= .int .i64 (k:Int)∧Hid (noMux l k)) (fun i=>n-(intOf i).toNat)
 case atStart=>exact⟨0,by omega,rfl,hd' (fun i s h=>by omega)⟩
 case round=>
  obtain⟨k,hk,rfl,HI⟩:=hrel
  by_cases hlt:k<n
  ·have e1:((k:Int)<(n:Int))=True:=by simp;omega
   have q0:(0:Int)≤(k:Int):=by omega
   have q1:(k:Int)<len:=by omega
   have hs:l[k]? =some (l[k]'(by have:=HLE.out;omega)):=List.getElem?_eq_getElem _;generalize l[k]'(by have:=HLE.out;omega)=s at hs;obtain⟨b,off,a,kk,cp,rfl,hb,hr,_,_⟩:=HL.out.get hs;have j3:w.cell? ⟨b,off+k*19+3,none⟩=some (.int .i64 s.role):=hr 3 _ rfl;have HS:=hd' hs;clear hs hr hb
   by_cases h1:s.role=1
   ·have e2:(s.role==1)=true:=by simp[h1]
    have HE:=hd' (HA.out.symm.trans (muxZ_at HI.out HS.out h1 hlt));clear h1;go_wp2_with fail;go_ret;exact⟨by rw[HE.out];rfl,rfl⟩
   ·have e2:(s.role==1)=false:=by simp[h1]
    have HI2:Hid (noMux l (k+1)):=hd' (fun i t hi ht=>by
     rcases Nat.lt_or_ge i k with h | h
     ·exact HI.out i t h ht
     ·obtain rfl:i=k:=by omega
      rw[HS.out]at ht;obtain rfl:=Option.some.inj ht
      exact h1)
    clear h1;go_wp2_with fail
    go_round
    case rel=>exact⟨k+1,by omega,by go_num,HI2⟩
    case measure=>simp[intOf];omega
  ·obtain rfl:k=n:=by omega
   have e1:((k:Int)<(k:Int))=False:=by simp
   have HE:=hd' (HA.out.symm.trans (muxZ_no HI.out));go_wp2_with fail;go_ret;exact⟨by rw[HE.out];rfl,rfl⟩
def togB(s t:B.Sig):Bool:= !decide (s.role=2)|| !decide (t.role=2)||decide (s.branch=t.branch)
set_option maxRecDepth 100000 in
set_option maxHeartbeats 1600000 in
theorem together_any(s t:B.Sig)(tv uv:Value)(w:World):
    Calls Tryz.prog 32 #[.agg (sigC s tv),.agg (sigC t uv)] w (fun e w'=>e= .returned (.bool (togB s t))∧Below w.heap.size w w'):=by
 have hrow:=RC.new (sigC s tv) 71 w (n:=19) rfl rfl;have hbel:Below w.heap.size w (w.alloc (.cells (sigC s tv) 71)):=(Below.refl _ _).alloc (lR' _) _;obtain⟨w1,hw1⟩:∃w1,w.alloc (.cells (sigC s tv) 71)=w1:=⟨_,rfl⟩;rw[hw1]at hrow hbel;have hrow2:=RC.new (sigC t uv) 71 w1 (n:=19) rfl rfl;have hb12:Below w1.heap.size w1 (w1.alloc (.cells (sigC t uv) 71)):=(Below.refl _ _).alloc (lR' _) _;obtain⟨w2,hw2⟩:∃w2,w1.alloc (.cells (sigC t uv) 71)=w2:=⟨_,rfl⟩;rw[hw2]at hrow2 hb12;have hr1:=hrow.low hb12 hrow.blk;have k1:w2.cell? ⟨w.heap.size,3,none⟩=some (.int .i64 s.role):=hr1.cell (j:=3) rfl;have k2:w2.cell? ⟨w.heap.size,4,none⟩=some (.int .u64 s.branch):=hr1.cell (j:=4) rfl;have k3:w2.cell? ⟨w1.heap.size,3,none⟩=some (.int .i64 t.role):=hrow2.cell (j:=3) rfl
 have k4:w2.cell? ⟨w1.heap.size,4,none⟩=some (.int .u64 t.branch):=hrow2.cell (j:=4) rfl;have HB:=hd' (hbel.trans (hb12.mono hbel.size));clear hrow hbel hrow2 hb12 hr1;obtain⟨ans,hans⟩:∃ans,togB s t=ans:=⟨_,rfl⟩;rw[hans];unfold togB at hans
 by_cases h1:s.role=2
 ·have e1:(s.role !=2)=false:=by simp[h1]
  by_cases h2:t.role=2
  ·have e2:(t.role !=2)=false:=by simp[h2]
   have HE:Hid (ans=(s.branch==t.branch)):=hd' (by rw[←hans];simp[h1,h2];rw[Bool.eq_iff_iff];simp);clear hans h1 h2;go_enter Tryz.func32,Tryz.ntmps32
   go_upto_region 1 with fail
   try rw[hw1]
   try rw[hw2]
   clear hw1 hw2;go_wp2_with fail;go_ret;exact⟨by rw[HE.out];rfl,HB.out⟩
  ·have e2:(t.role !=2)=true:=by simp[h2]
   have HE:Hid (ans=true):=hd' (by rw[←hans];simp[h2]);clear hans h1 h2;go_enter Tryz.func32,Tryz.ntmps32
   go_upto_region 1 with fail
   try rw[hw1]
   try rw[hw2]
   clear hw1 hw2;go_wp2_with fail;go_ret;exact⟨by rw[HE.out];rfl,HB.out⟩
 ·have e1:(s.role !=2)=true:=by simp[h1]
  have HE:Hid (ans=true):=hd' (by rw[←hans];simp[h1]);clear hans h1;go_enter Tryz.func32,Tryz.ntmps32
  go_upto_region 1 with fail
  try rw[hw1]
  try rw[hw2]
  clear hw1 hw2;go_wp2_with fail;go_ret;exact⟨by rw[HE.out];rfl,HB.out⟩
end Code
end Go.Proofs.YtljhklblbafjkaaGreatDoor
namespace Go.Proofs.YtljhklblbafjkaaGreatDoor
open Go.RowKit
namespace Code
attribute [local go_sem ↓] Go.wp_at_zero Go.wp_at_succ
set_option maxRecDepth 100000 in
set_option maxHeartbeats 3200000 in
theorem rwhere_any(s:B.Sig)(tv:Value)(size:Int)(w:World):Calls Tryz.prog 58 #[.agg (sigC s tv),.int .i64 size] w (NumOut (s.whereNo size) w):=by
 have hrow:=RC.new (sigC s tv) 71 w (n:=19) rfl rfl;have hbel:Below w.heap.size w (w.alloc (.cells (sigC s tv) 71)):=(Below.refl _ _).alloc (lR' _) _;obtain⟨w1,hw1⟩:∃w1,w.alloc (.cells (sigC s tv) 71)=w1:=⟨_,rfl⟩;rw[hw1]at hrow hbel;have hbits:=rbits_any s tv w1;have hrr:=RC.range hrow;have HB:=hd' hbel;obtain⟨ans,hans⟩:∃ans,s.whereNo size=ans:=⟨_,rfl⟩;rw[hans];have HA:=hd' hans;clear hrow hbel hans
 by_cases hp:s.placeNo=0
 ·have hb0:=hbits.mono (fun e w' (h:RBitsOut s w1 e w')=>h.1 hp)
  have hp64:=(B.Sig.place_ok hp).1
  have hbl:s.bits.length≤64:=by rw[s.bits_length];omega
  obtain⟨lo,hlo⟩:∃lo:Nat,(lo:Int)=8*Min.min (Max.max size 0) 8∧lo≤64:=⟨(8*Min.min (Max.max size 0) 8).toNat,by omega,by omega⟩
  have hall:(∀b∈s.bits,b<lo)→ans=0:=fun h=>by
   rw[←HA.out];unfold B.Sig.whereNo;rw[if_neg (by simp[hp]),if_pos];refine List.all_eq_true.2 (fun b hb=> ?_);rw[decide_eq_true_eq,←hlo.1];have:=h b hb;omega
  have hno:∀b∈s.bits,lo≤b→ans=16:=fun b hb hle=>by
   rw[←HA.out];unfold B.Sig.whereNo;rw[if_neg (by simp[hp]),if_neg];intro h;have:=List.all_eq_true.1 h b hb;rw[decide_eq_true_eq,←hlo.1]at this;omega
  have HALL:=hd' hall;have HNO:=hd' hno;have hl64:=hlo.2;have hmm:8*Min.min (Max.max size 0) 8=(lo:Int):=hlo.1.symm;obtain⟨L,hL⟩:∃L,s.bits.length=L:=⟨_,rfl⟩;rw[hL]at hb0 hbl;have HLL:=hd' hL;clear hbits hp hall hno hlo hp64 hL;go_enter Tryz.func58,Tryz.ntmps58
  go_upto_region 1 with fail
  try rw[hw1]
  clear hw1
  go_upto_region 4 with(first
   | refine wpList_load_mid (by rfl) 71 _ (by rfl) w.heap.size 0 (by rfl) (sigC s tv).toList _ hrr Tryz.underlying71 (by rfl) (by rw[infoN71];rfl) ?_
   | (go_at_call 63;refine hb0.mono ?_;rintro e w2 ⟨ao,cap,rfl,hown,hb2⟩))
  have HOW:=hd' hown;have HB2:Hid (Below w.heap.size w w2):=hd' (HB.out.trans (hb2.mono HB.out.size));clear hb2 hb0 hrr hown;go_wp2_with fail
  go_loop [7] (fun i=>∃k:Nat,k≤L∧i= .int .i64 (k:Int)∧Hid (∀j b,j<k→s.bits[j]? =some b→b<lo)) (fun i=>L-(intOf i).toNat)
  case atStart=>exact⟨0,by omega,rfl,hd' (fun j b h=>by omega)⟩
  case round=>
   obtain⟨k,hk,rfl,HI⟩:=hrel
   by_cases hlt:k<L
   ·have e1:((k:Int)<(L:Int))=True:=by simp;omega
    have q0:(0:Int)≤(k:Int):=by omega
    have q1:(k:Int)<L:=by omega
    have hb:s.bits[k]? =some (s.bits[k]'(by have:=HLL.out;omega)):=List.getElem?_eq_getElem _;generalize s.bits[k]'(by have:=HLL.out;omega)=b at hb;obtain⟨g,rfl,_,_,hc⟩:=HOW.out.cell (i:=k) (v:=natV b) (by rw[List.getElem?_map,hb];rfl);unfold natV at hc;have HBB:=hd' hb;clear hb
    by_cases hbl:lo≤b
    ·have e2:((b:Int)≥(lo:Int))=True:=by simp;omega
     have HE:=hd' (HNO.out b (List.mem_of_getElem? HBB.out) hbl);clear hbl;go_wp2_with fail;go_ret;exact⟨by rw[HE.out];rfl,HB2.out⟩
    ·have e2:((b:Int)≥(lo:Int))=False:=by simp;omega
     have HI2:Hid (∀j b,j<k+1→s.bits[j]? =some b→b<lo):=hd' (fun j c hj hcc=>by
      rcases Nat.lt_or_ge j k with h | h
      ·exact HI.out j c h hcc
      ·obtain rfl:j=k:=by omega
       rw[HBB.out]at hcc;obtain rfl:=Option.some.inj hcc
       omega)
     clear hbl;go_wp2_with fail
     go_round
     case rel=>exact⟨k+1,by omega,by go_num,HI2⟩
     case measure=>simp[intOf];omega
   ·obtain rfl:k=L:=by omega
    have e1:((k:Int)<(k:Int))=False:=by simp
    have HE:=hd' (HALL.out (fun b hb=>by
     obtain⟨j,hj⟩:=List.getElem?_of_mem hb
     exact HI.out j b (by have:=(List.getElem?_eq_some_iff.1 hj).1;have:=HLL.out;omega) hj))
    go_wp2_with fail;go_ret;exact⟨by rw[HE.out];rfl,HB2.out⟩
 ·have hb0:=hbits.mono (fun e w' (h:RBitsOut s w1 e w')=>h.2 hp)
  obtain⟨no,hnn⟩:∃no,s.placeNo=no:=⟨_,rfl⟩;rw[hnn]at hb0 hp
  have HE:Hid (ans=no):=hd' (by
   rw[←HA.out,←hnn];unfold B.Sig.whereNo
   rw[if_pos (by rw[hnn];exact hp)])
  have e1:(no !=0)=true:=by simp[hp]
  clear hbits hp hnn;go_enter Tryz.func58,Tryz.ntmps58
  go_upto_region 1 with fail
  try rw[hw1]
  clear hw1
  go_wp2_with (first
   | refine wpList_load_mid (by rfl) 71 _ (by rfl) w.heap.size 0 (by rfl) (sigC s tv).toList _ hrr Tryz.underlying71 (by rfl) (by rw[infoN71];rfl) ?_
   | (go_at_call 63;refine hb0.mono ?_;rintro e w2 ⟨rfl,hb2⟩))
  go_ret;exact⟨by rw[HE.out];rfl,HB.out.trans (hb2.mono HB.out.size)⟩
theorem wordNo_at{l:List ByteArray}{i:Nat}{s:ByteArray}(h:l[i]? =some s):B.wordNo l i=if B.wordOk s=false then 11 else if(l.take i).any (fun t=>decide (t=s))=true then 12 else 0:=by
 unfold B.wordNo;rw[h]
set_option maxRecDepth 100000 in
set_option maxHeartbeats 3200000 in
theorem rnames_any(a:Option Addr)(n cap:Nat)(l:List ByteArray)(w:World)(hl:ListAt w a n (l.map Value.string))(hs:∀s∈l,s.size≤9223372036854775807)(hn:n≤9223372036854775807):
    Calls Tryz.prog 62 #[.slice a n cap] w (NumOut (if n=0 then 2 else B.listNo l 64) w):=by
 have hlen:=hl.len;rw[List.length_map]at hlen;have HL:=hd' hl;have HLE:=hd' hlen;have HS:=hd' hs;obtain⟨ans,hans⟩:∃ans,(if n=0 then(2:Int)else B.listNo l 64)=ans:=⟨_,rfl⟩;rw[hans];unfold B.listNo at hans;rw[←hlen]at hans;clear hl hlen hs
 by_cases h0:n=0
 ·have e1:((n:Int)==0)=true:=by simp[h0]
  rw[if_pos h0]at hans;have HA:=hd' hans;clear hans h0;go_enter Tryz.func62,Tryz.ntmps62;go_wp2_with fail;go_ret;exact⟨by rw[←HA.out];rfl,Below.refl _ _⟩
 ·have e1:((n:Int)==0)=false:=by simp[h0]
  rw[if_neg h0]at hans
  by_cases h64:64<n
  ·have e2:((64:Int)<n)=True:=by simp;omega
   rw[if_pos h64]at hans;have HA:=hd' hans;clear hans h0 h64;go_enter Tryz.func62,Tryz.ntmps62;go_wp2_with fail;go_ret;exact⟨by rw[←HA.out];rfl,Below.refl _ _⟩
  ·have e2:((64:Int)<n)=False:=by simp;omega
   rw[if_neg h64]at hans;have HA:=hd' hans
   have hn64:n≤64:=by omega
   clear hans h0 h64;go_enter Tryz.func62,Tryz.ntmps62;go_wp2_with fail
   go_loopw [3] (fun i wr=>∃k:Nat,k≤n∧i= .int .i64 (k:Int)∧Hid (Below w.heap.size w wr∧∀j,j<k→B.wordNo l j=0)) (fun i _=>n-(intOf i).toNat)
   case atStart=>exact⟨0,by omega,rfl,hd' ⟨Below.refl _ _,fun j h=>by omega⟩⟩
   case round=>
    obtain⟨i,hi,rfl,HI⟩:=hrel
    by_cases hlt:i<n
    ·have e3:((i:Int)<(n:Int))=True:=by simp;omega
     have q0:(0:Int)≤(i:Int):=by omega
     have q1:(i:Int)<n:=by omega
     have hx:l[i]? =some (l[i]'(by have:=HLE.out;omega)):=List.getElem?_eq_getElem _;generalize l[i]'(by have:=HLE.out;omega)=s at hx;obtain⟨b1,o1,rfl,hl1,hc1⟩:=HL.out.at_ i (.string s) (by rw[List.getElem?_map,hx];rfl);have HC1:=hd' (fun(wz:World) (hb:Below w.heap.size w wz)=>(hb.cell (p:=⟨b1,o1+i,none⟩) hl1).trans hc1);have c1:=HC1.out wr HI.out.1;have hwd:=rword_any s wr (HS.out s (List.mem_of_getElem? hx));have HNO:=hd' (wordNo_at hx);have HX:=hd' hx
     have HFIRST:Hid (B.wordNo l i≠0→ans=B.wordNo l i):=hd' (fun h=>by
      rw[←HA.out];unfold B.firstNo
      rw[B.firstAt_some HI.out.2 hlt h])
     clear hx hl1 hc1
     cases hok:B.wordOk s with
     | false=>
      rw[hok]at hwd
      have HE:Hid (ans=11):=hd' (by
       have e:B.wordNo l i=11:=by rw[HNO.out,if_pos hok]
       rw[HFIRST.out (by rw[e];decide),e])
      clear hok;go_wp2_with (go_at_call 57;refine hwd.mono ?_;rintro e w2 ⟨rfl,rfl⟩);go_ret;exact⟨by rw[HE.out];rfl,HI.out.1⟩
     | true=>
      rw[hok]at hwd;have HOK:=hd' hok;have HB0:=hd' HI.out.1;clear hok;go_wp2_with (go_at_call 57;refine hwd.mono ?_;rintro e w2 ⟨rfl,rfl⟩);clear c1 hwd
      go_loopw [4] (fun kk wr=>∃k:Nat,k≤i∧kk= .int .i64 (k:Int)∧Hid (Below w.heap.size w wr∧∀j t,j<k→l[j]? =some t→t≠s)) (fun kk _=>i-(intOf kk).toNat)
      case atStart=>exact⟨0,by omega,rfl,hd' ⟨HB0.out,fun j t h=>by omega⟩⟩
      case round=>
       obtain⟨k,hk,rfl,HK⟩:=hrel;clear HB0
       by_cases hlk:k<i
       ·have e4:((k:Int)<(i:Int))=True:=by simp;omega
        have q2:(0:Int)≤(k:Int):=by omega
        have q3:(k:Int)<n:=by omega
        have hy:l[k]? =some (l[k]'(by have:=HLE.out;omega)):=List.getElem?_eq_getElem _;generalize l[k]'(by have:=HLE.out;omega)=t at hy;obtain⟨b2,o2,e,hl2,hc2⟩:=HL.out.at_ k (.string t) (by rw[List.getElem?_map,hy];rfl);injection e with e;injection e with e5 e6 _;subst e5 e6;have c2:=(HK.out.1.cell (p:=⟨b1,o1+k,none⟩) hl2).trans hc2;have c1:=HC1.out wr HK.out.1;have HY:=hd' hy;have hse:=str_eq t s;have HBD:Hid (∀q,Below w.heap.size w (wr.drewN q)):=hd' (fun q=>belowN HK.out.1 q);clear hy hl2 hc2
        by_cases hts:t=s
        ·have e5:(t.toList==s.toList)=true:=by rw[hse];simp[hts]
         have HE:Hid (ans=12):=hd' (by
          have ha:(l.take i).any (fun t=>decide (t=s))=true:=List.any_eq_true.2 ⟨t,List.mem_of_getElem? (i:=k) (by rw[List.getElem?_take,if_pos hlk];exact HY.out),by simp[hts]⟩
          have e:B.wordNo l i=12:=by rw[HNO.out,if_neg (by rw[HOK.out];simp),if_pos ha]
          rw[HFIRST.out (by rw[e];decide),e])
         clear hse hts
         go_upto_region 13 with fail
         go_quiet (fail)
         go_wp2_with fail;go_ret;exact⟨by rw[HE.out];rfl,HBD.out _⟩
        ·have e5:(t.toList==s.toList)=false:=by rw[hse];simp;exact fun h=>hts h.symm
         have HK2:Hid (∀j u,j<k+1→l[j]? =some u→u≠s):=hd' (fun j u hj hu=>by
          rcases Nat.lt_or_ge j k with h | h
          ·exact HK.out.2 j u h hu
          ·obtain rfl:j=k:=by omega
           rw[HY.out]at hu;obtain rfl:=Option.some.inj hu
           exact hts)
         clear hse hts
         go_upto_region 13 with fail
         go_quiet (fail)
         go_wp2_with fail;go_roundw
         case rel=>exact⟨k+1,by omega,by go_num,hd' ⟨HBD.out _,HK2.out⟩⟩
         case measure=>simp[intOf];omega
       ·obtain rfl:k=i:=by omega
        have e4:((k:Int)<(k:Int))=False:=by simp
        have HN0:Hid (∀j,j<k+1→B.wordNo l j=0):=hd' (fun j hj=>by
         rcases Nat.lt_or_ge j k with h | h
         ·exact HI.out.2 j h
         ·obtain rfl:j=k:=by omega
          rw[HNO.out,if_neg (by rw[HOK.out];simp),if_neg];intro ha;obtain⟨t,ht,hts⟩:=List.any_eq_true.1 ha;obtain⟨q,hq⟩:=List.getElem?_of_mem ht;rw[List.getElem?_take]at hq;split at hq
          ·exact HK.out.2 q t (by assumption) hq (by simpa using hts)
          ·cases hq)
        have HBK:=hd' HK.out.1;clear HK HI;go_wp2_with fail;go_roundw
        case rel=>exact⟨k+1,by omega,by go_num,hd' ⟨HBK.out,HN0.out⟩⟩
        case measure=>simp[intOf];omega
    ·obtain rfl:i=n:=by omega
     have e3:((i:Int)<(i:Int))=False:=by simp
     have HE:Hid (ans=0):=hd' (by
      rw[←HA.out];unfold B.firstNo
      rw[B.firstAt_none HI.out.2])
     go_wp2_with fail;go_ret;exact⟨by rw[HE.out];rfl,HI.out.1⟩
set_option maxRecDepth 100000 in
set_option maxHeartbeats 6400000 in
theorem rhead_any(m:B.Msg)(sa:Option Addr)(n cap:Nat)(hm:MsgWf m)(hn:n=m.sigs.length)(w:World):Calls Tryz.prog 27 #[.agg (msgC m (.slice sa n cap))] w (NumOut m.headNo w):=by
 obtain⟨ans,hans⟩:∃ans,m.headNo=ans:=⟨_,rfl⟩;rw[hans];unfold B.Msg.headNo at hans;rw[←hn]at hans;have hrow:=RC.new (msgC m (.slice sa n cap)) 27 w (n:=8) rfl rfl;have hbel:Below w.heap.size w (w.alloc (.cells (msgC m (.slice sa n cap)) 27)):=(Below.refl _ _).alloc (lR' _) _;obtain⟨w1,hw1⟩:∃w1,w.alloc (.cells (msgC m (.slice sa n cap)) 27)=w1:=⟨_,rfl⟩;rw[hw1]at hrow hbel;have HB:=hd' hbel;have k2:w1.cell? ⟨w.heap.size,2,none⟩=some (.int .u32 m.id):=hrow.cell (j:=2) rfl;have k3:w1.cell? ⟨w.heap.size,3,none⟩=some (.bool m.wide):=hrow.cell (j:=3) rfl;have k4:w1.cell? ⟨w.heap.size,4,none⟩=some (.string m.name):=hrow.cell (j:=4) rfl;have k5:w1.cell? ⟨w.heap.size,5,none⟩=some (.int .i64 m.size):=hrow.cell (j:=5) rfl;have k6:w1.cell? ⟨w.heap.size,6,none⟩=some (.string m.sender):=hrow.cell (j:=6) rfl
 have k7:w1.cell? ⟨w.heap.size,7,none⟩=some (.slice sa n cap):=hrow.cell (j:=7) rfl;have hw4:=rword_any m.name w1 hm.name;have hw6:=rword_any m.sender w1 hm.sender;clear hrow hbel hm hn;go_enter Tryz.func27,Tryz.ntmps27
 go_upto_region 1 with fail
 try rw[hw1]
 clear hw1
 cases hok:B.wordOk m.name with
 | false=>
  rw[hok]at hw4;rw[if_pos hok]at hans;clear hok;have HE:Hid (ans=11):=hd' hans.symm;clear hans;go_wp2_with fail;refine hw4.mono ?_;rintro e w2 ⟨rfl,rfl⟩;go_wp2_with fail;go_ret;exact⟨by rw[HE.out];rfl,HB.out⟩
 | true=>
  rw[hok]at hw4;rw[if_neg (by rw[hok];simp)]at hans;clear hok
  cases hwd:m.wide with
  | true=>
   rw[hwd]at k3;rw[if_pos hwd]at hans;clear hwd
   by_cases hid:(536870911:Int)<m.id
   ·have e1:((536870911:Int)<m.id)=True:=by simp[hid]
    rw[if_pos hid]at hans;clear hid;have HE:Hid (ans=26):=hd' hans.symm;clear hans;go_wp2_with fail;refine hw4.mono ?_;rintro e w2 ⟨rfl,rfl⟩;go_wp2_with fail;go_ret;exact⟨by rw[HE.out];rfl,HB.out⟩
   ·have e1:((536870911:Int)<m.id)=False:=by simp;omega
    rw[if_neg hid]at hans;clear hid
    by_cases hs1:m.size<0
    ·have f1:(m.size<0)=True:=by simp[hs1]
     rw[if_pos (.inl hs1)]at hans;clear hs1;have HE:Hid (ans=15):=hd' hans.symm;clear hans;go_wp2_with fail;refine hw4.mono ?_;rintro e w2 ⟨rfl,rfl⟩;go_wp2_with fail;go_ret;exact⟨by rw[HE.out];rfl,HB.out⟩
    ·have f1:(m.size<0)=False:=by simp;omega
     by_cases hs2:8<m.size
     ·have f2:(8<m.size)=True:=by simp[hs2]
      rw[if_pos (.inr hs2)]at hans;clear hs1 hs2;have HE:Hid (ans=15):=hd' hans.symm;clear hans;go_wp2_with fail;refine hw4.mono ?_;rintro e w2 ⟨rfl,rfl⟩;go_wp2_with fail;go_ret;exact⟨by rw[HE.out];rfl,HB.out⟩
     ·have f2:(8<m.size)=False:=by simp;omega
      rw[if_neg (by omega)]at hans;clear hs1 hs2
      cases hok6:B.wordOk m.sender with
      | false=>
       rw[hok6]at hw6;rw[if_pos hok6]at hans;clear hok6;have HE:Hid (ans=11):=hd' hans.symm;clear hans;go_wp2_with fail;refine hw4.mono ?_;rintro e w2 ⟨rfl,rfl⟩;go_wp2_with fail;refine hw6.mono ?_;rintro e w2 ⟨rfl,rfl⟩;go_wp2_with fail;go_ret;exact⟨by rw[HE.out];rfl,HB.out⟩
      | true=>
       rw[hok6]at hw6;rw[if_neg (by rw[hok6];simp)]at hans;clear hok6
       by_cases hl:64<n
       ·have f4:((64:Int)<n)=True:=by simp;omega
        rw[if_pos hl]at hans;clear hl;have HE:Hid (ans=5):=hd' hans.symm;clear hans;go_wp2_with fail;refine hw4.mono ?_;rintro e w2 ⟨rfl,rfl⟩;go_wp2_with fail;refine hw6.mono ?_;rintro e w2 ⟨rfl,rfl⟩;go_wp2_with fail;go_ret;exact⟨by rw[HE.out];rfl,HB.out⟩
       ·have f4:((64:Int)<n)=False:=by simp;omega
        rw[if_neg hl]at hans;clear hl;have HE:Hid (ans=0):=hd' hans.symm;clear hans;go_wp2_with fail;refine hw4.mono ?_;rintro e w2 ⟨rfl,rfl⟩;go_wp2_with fail;refine hw6.mono ?_;rintro e w2 ⟨rfl,rfl⟩;go_wp2_with fail;go_ret;exact⟨by rw[HE.out];rfl,HB.out⟩
  | false=>
   rw[hwd]at k3;rw[if_neg (show¬m.wide=true by rw[hwd];simp)]at hans;clear hwd
   by_cases hid:(536870911:Int)<m.id
   ·have e1:((536870911:Int)<m.id)=True:=by simp[hid]
    rw[if_pos (by omega)]at hans;clear hid;have HE:Hid (ans=26):=hd' hans.symm;clear hans;go_wp2_with fail;refine hw4.mono ?_;rintro e w2 ⟨rfl,rfl⟩;go_wp2_with fail;go_ret;exact⟨by rw[HE.out];rfl,HB.out⟩
   ·have e1:((536870911:Int)<m.id)=False:=by simp;omega
    by_cases hid2:(2047:Int)<m.id
    ·have e2:((2047:Int)<m.id)=True:=by simp[hid2]
     rw[if_pos hid2]at hans;clear hid hid2;have HE:Hid (ans=26):=hd' hans.symm;clear hans;go_wp2_with fail;refine hw4.mono ?_;rintro e w2 ⟨rfl,rfl⟩;go_wp2_with fail;go_ret;exact⟨by rw[HE.out];rfl,HB.out⟩
    ·have e2:((2047:Int)<m.id)=False:=by simp;omega
     rw[if_neg hid2]at hans;clear hid hid2
     by_cases hs1:m.size<0
     ·have f1:(m.size<0)=True:=by simp[hs1]
      rw[if_pos (.inl hs1)]at hans;clear hs1;have HE:Hid (ans=15):=hd' hans.symm;clear hans;go_wp2_with fail;refine hw4.mono ?_;rintro e w2 ⟨rfl,rfl⟩;go_wp2_with fail;go_ret;exact⟨by rw[HE.out];rfl,HB.out⟩
     ·have f1:(m.size<0)=False:=by simp;omega
      by_cases hs2:8<m.size
      ·have f2:(8<m.size)=True:=by simp[hs2]
       rw[if_pos (.inr hs2)]at hans;clear hs1 hs2;have HE:Hid (ans=15):=hd' hans.symm;clear hans;go_wp2_with fail;refine hw4.mono ?_;rintro e w2 ⟨rfl,rfl⟩;go_wp2_with fail;go_ret;exact⟨by rw[HE.out];rfl,HB.out⟩
      ·have f2:(8<m.size)=False:=by simp;omega
       rw[if_neg (by omega)]at hans;clear hs1 hs2
       cases hok6:B.wordOk m.sender with
       | false=>
        rw[hok6]at hw6;rw[if_pos hok6]at hans;clear hok6;have HE:Hid (ans=11):=hd' hans.symm;clear hans;go_wp2_with fail;refine hw4.mono ?_;rintro e w2 ⟨rfl,rfl⟩;go_wp2_with fail;refine hw6.mono ?_;rintro e w2 ⟨rfl,rfl⟩;go_wp2_with fail;go_ret;exact⟨by rw[HE.out];rfl,HB.out⟩
       | true=>
        rw[hok6]at hw6;rw[if_neg (by rw[hok6];simp)]at hans;clear hok6
        by_cases hl:64<n
        ·have f4:((64:Int)<n)=True:=by simp;omega
         rw[if_pos hl]at hans;clear hl;have HE:Hid (ans=5):=hd' hans.symm;clear hans;go_wp2_with fail;refine hw4.mono ?_;rintro e w2 ⟨rfl,rfl⟩;go_wp2_with fail;refine hw6.mono ?_;rintro e w2 ⟨rfl,rfl⟩;go_wp2_with fail;go_ret;exact⟨by rw[HE.out];rfl,HB.out⟩
        ·have f4:((64:Int)<n)=False:=by simp;omega
         rw[if_neg hl]at hans;clear hl;have HE:Hid (ans=0):=hd' hans.symm;clear hans;go_wp2_with fail;refine hw4.mono ?_;rintro e w2 ⟨rfl,rfl⟩;go_wp2_with fail;refine hw6.mono ?_;rintro e w2 ⟨rfl,rfl⟩;go_wp2_with fail;go_ret;exact⟨by rw[HE.out];rfl,HB.out⟩
end Code
end Go.Proofs.YtljhklblbafjkaaGreatDoor
namespace Go.Proofs.YtljhklblbafjkaaGreatDoor
open Go.RowKit
namespace Code
attribute [local go_sem ↓] Go.wp_at_zero Go.wp_at_succ
set_option maxRecDepth 100000 in
set_option maxHeartbeats 6400000 in
theorem ralone_any(s:B.Sig)(a:Option Addr)(n cap:Nat)(size:Int)(hs:SigWf s)(w:World)(hl:ListAt w a n (s.dest.map Value.string))(hn:n≤9223372036854775807):
    Calls Tryz.prog 29 #[.agg (sigC s (.slice a n cap)),.int .i64 size] w (NumOut (s.aloneNo size) w):=by
 obtain⟨ans,hans⟩:∃ans,s.aloneNo size=ans:=⟨_,rfl⟩;rw[hans];unfold B.Sig.aloneNo at hans;have hlen:=hl.len;rw[List.length_map]at hlen;rw[←hlen]at hans;have HL:=hd' hl;have HS:=hd' hs;have hrow:=RC.new (sigC s (.slice a n cap)) 71 w (n:=19) rfl rfl;have hbel:Below w.heap.size w (w.alloc (.cells (sigC s (.slice a n cap)) 71)):=(Below.refl _ _).alloc (lR' _) _;obtain⟨w1,hw1⟩:∃w1,w.alloc (.cells (sigC s (.slice a n cap)) 71)=w1:=⟨_,rfl⟩;rw[hw1]at hrow hbel;have HR:=hd' hrow;have HB:=hd' hbel;have r0:=rword_any s.name w1 hs.name;have k2:w1.cell? ⟨w.heap.size,2,none⟩=some (.string s.name):=hrow.cell (j:=2) rfl;have k3:w1.cell? ⟨w.heap.size,3,none⟩=some (.int .i64 s.role):=hrow.cell (j:=3) rfl;have k4:w1.cell? ⟨w.heap.size,4,none⟩=some (.int .u64 s.branch):=hrow.cell (j:=4) rfl;clear hrow hbel hl hs hlen
 go_enter Tryz.func29,Tryz.ntmps29
 go_upto_region 1 with fail
 try rw[hw1]
 clear hw1
 cases hok:B.wordOk s.name with
 | false=>
  rw[hok]at r0;rw[if_pos hok]at hans;clear hok;have HE:Hid (ans=11):=hd' hans.symm;clear hans;go_wp2_with fail;refine r0.mono ?_;rintro e w2 ⟨rfl,rfl⟩;go_wp2_with fail;go_ret;exact⟨by rw[HE.out];rfl,HB.out⟩
 | true=>
  rw[hok]at r0;rw[if_neg (by rw[hok];simp)]at hans;clear hok;go_wp2_with fail;refine r0.mono ?_;rintro e w2 ⟨rfl,rfl⟩;clear r0 k2
  go_upto_region 3 with fail
  by_cases h1:s.role<0
  ·have e1:(s.role<0)=True:=by simp[h1]
   rw[if_pos (.inl h1)]at hans;clear h1;have HE:Hid (ans=14):=hd' hans.symm;clear hans;go_wp2_with fail;go_ret;exact⟨by rw[HE.out];rfl,HB.out⟩
  ·have e1:(s.role<0)=False:=by simp;omega
   by_cases h2:2<s.role
   ·have e2:(2<s.role)=True:=by simp[h2]
    rw[if_pos (.inr (.inl h2))]at hans;clear h1 h2;have HE:Hid (ans=14):=hd' hans.symm;clear hans;go_wp2_with fail;go_ret;exact⟨by rw[HE.out];rfl,HB.out⟩
   ·have e2:(2<s.role)=False:=by simp;omega
    by_cases h3:s.branch≠0∧s.role≠2
    ·have e3:(s.branch !=0)=true:=by simp[h3.1]
     have e4:(s.role !=2)=true:=by simp[h3.2]
     rw[if_pos (.inr (.inr h3))]at hans;clear h1 h2 h3;have HE:Hid (ans=14):=hd' hans.symm;clear hans;go_wp2_with fail;go_ret;exact⟨by rw[HE.out];rfl,HB.out⟩
    ·rw[if_neg (by rintro(h | h | h);exact h1 h;exact h2 h;exact h3 h)]at hans
     rcases Classical.em (s.branch=0)with h4 | h4
     case' inl=>
      have e3:(s.branch !=0)=false:=by simp[h4]
      have e4:True:=trivial
     case' inr=>
      have e3:(s.branch !=0)=true:=by simp[h4]
      have e4:(s.role !=2)=false:=by
       by_cases h5:s.role=2
       ·simp[h5]
       ·exact absurd ⟨h4,h5⟩ h3
     all_goals
      clear h1 h2 h3 h4
      go_upto_region 5 with fail
      clear e1 e2 e3 e4 k3 k4;have hrr:=RC.range HR.out;have hwh:=rwhere_any s (.slice a n cap) size w1
      by_cases hw0:s.whereNo size=0
      ·rw[hw0]at hwh
       rw[if_neg (by rw[hw0];simp)]at hans;clear hw0
       go_upto_region 8 with(first
        | refine wpList_load_mid (by rfl) 71 _ (by rfl) w.heap.size 0 (by rfl) (sigC s (.slice a n cap)).toList _ hrr Tryz.underlying71 (by rfl) (by rw[infoN71];rfl) ?_
        | (go_at_call 58;refine hwh.mono ?_;rintro e wx ⟨rfl,hb1⟩))
       obtain⟨w1',rfl⟩:∃x,x=wx:=⟨_,rfl⟩;have HT1:Hid (Below w1.heap.size w1 w1'):=hd' hb1;clear hb1 hwh hrr;have k9:w1'.cell? ⟨w.heap.size,9,none⟩=some (.int .i64 s.scale.num):=(HR.out.low HT1.out HR.out.blk).cell (j:=9) rfl;have k10:w1'.cell? ⟨w.heap.size,10,none⟩=some (.int .i64 s.scale.den):=(HR.out.low HT1.out HR.out.blk).cell (j:=10) rfl;have r2:=rright_any s.scale HS.out.scale w1';unfold rtV at r2
       cases h2:s.scale.right with
       | false=>
        rw[h2]at r2
        have hrn:s.rangedNo=1:=by rw[ranged_of,if_pos (.inl h2)]
        rw[hrn,if_pos (by decide)]at hans;clear hrn;clear h2;have HE:Hid (ans=1):=hd' hans.symm;clear hans;go_wp2_with fail;refine(r2).mono ?_;rintro e w2 ⟨rfl,hb2⟩;have HT2:Hid (Below w1.heap.size w1 w2):=hd' (HT1.out.trans (hb2.mono HT1.out.size));clear hb2;go_wp2_with fail;go_ret;exact⟨by rw[HE.out];rfl,HB.out.trans (HT2.out.mono HB.out.size)⟩
       | true=>
        rw[h2]at r2;have HT1r:=hd' h2;clear h2;go_wp2_with fail;refine(r2).mono ?_;rintro e w2 ⟨rfl,hb2⟩;have HT2:Hid (Below w1.heap.size w1 w2):=hd' (HT1.out.trans (hb2.mono HT1.out.size));clear hb2;clear r2 k9 k10;have k11:w2.cell? ⟨w.heap.size,11,none⟩=some (.int .i64 s.offset.num):=(HR.out.low HT2.out HR.out.blk).cell (j:=11) rfl;have k12:w2.cell? ⟨w.heap.size,12,none⟩=some (.int .i64 s.offset.den):=(HR.out.low HT2.out HR.out.blk).cell (j:=12) rfl;have r3:=rright_any s.offset HS.out.offset w2;unfold rtV at r3
        cases h3:s.offset.right with
        | false=>
         rw[h3]at r3
         have hrn:s.rangedNo=1:=by rw[ranged_of,if_pos (.inr (.inl h3))]
         rw[hrn,if_pos (by decide)]at hans;clear hrn;clear h3;have HE:Hid (ans=1):=hd' hans.symm;clear hans;go_wp2_with fail;refine(r3).mono ?_;rintro e w3 ⟨rfl,hb3⟩;have HT3:Hid (Below w1.heap.size w1 w3):=hd' (HT2.out.trans (hb3.mono HT2.out.size));clear hb3;go_wp2_with fail;go_ret;exact⟨by rw[HE.out];rfl,HB.out.trans (HT3.out.mono HB.out.size)⟩
        | true=>
         rw[h3]at r3;have HT2r:=hd' h3;clear h3;go_wp2_with fail;refine(r3).mono ?_;rintro e w3 ⟨rfl,hb3⟩;have HT3:Hid (Below w1.heap.size w1 w3):=hd' (HT2.out.trans (hb3.mono HT2.out.size));clear hb3;clear r3 k11 k12;have k13:w3.cell? ⟨w.heap.size,13,none⟩=some (.int .i64 s.min.num):=(HR.out.low HT3.out HR.out.blk).cell (j:=13) rfl;have k14:w3.cell? ⟨w.heap.size,14,none⟩=some (.int .i64 s.min.den):=(HR.out.low HT3.out HR.out.blk).cell (j:=14) rfl;have r4:=rright_any s.min HS.out.min w3;unfold rtV at r4
         cases h4:s.min.right with
         | false=>
          rw[h4]at r4
          have hrn:s.rangedNo=1:=by rw[ranged_of,if_pos (.inr (.inr (.inl h4)))]
          rw[hrn,if_pos (by decide)]at hans;clear hrn;clear h4;have HE:Hid (ans=1):=hd' hans.symm;clear hans;go_wp2_with fail;refine(r4).mono ?_;rintro e w4 ⟨rfl,hb4⟩;have HT4:Hid (Below w1.heap.size w1 w4):=hd' (HT3.out.trans (hb4.mono HT3.out.size));clear hb4;go_wp2_with fail;go_ret;exact⟨by rw[HE.out];rfl,HB.out.trans (HT4.out.mono HB.out.size)⟩
         | true=>
          rw[h4]at r4;have HT3r:=hd' h4;clear h4;go_wp2_with fail;refine(r4).mono ?_;rintro e w4 ⟨rfl,hb4⟩;have HT4:Hid (Below w1.heap.size w1 w4):=hd' (HT3.out.trans (hb4.mono HT3.out.size));clear hb4;clear r4 k13 k14;have k15:w4.cell? ⟨w.heap.size,15,none⟩=some (.int .i64 s.max.num):=(HR.out.low HT4.out HR.out.blk).cell (j:=15) rfl;have k16:w4.cell? ⟨w.heap.size,16,none⟩=some (.int .i64 s.max.den):=(HR.out.low HT4.out HR.out.blk).cell (j:=16) rfl;have r5:=rright_any s.max HS.out.max w4;unfold rtV at r5
          cases h5:s.max.right with
          | false=>
           rw[h5]at r5
           have hrn:s.rangedNo=1:=by rw[ranged_of,if_pos (.inr (.inr (.inr h5)))]
           rw[hrn,if_pos (by decide)]at hans;clear hrn;clear h5;have HE:Hid (ans=1):=hd' hans.symm;clear hans;go_wp2_with fail;refine(r5).mono ?_;rintro e w5 ⟨rfl,hb5⟩;have HT5:Hid (Below w1.heap.size w1 w5):=hd' (HT4.out.trans (hb5.mono HT4.out.size));clear hb5;go_wp2_with fail;go_ret;exact⟨by rw[HE.out];rfl,HB.out.trans (HT5.out.mono HB.out.size)⟩
          | true=>
           rw[h5]at r5;have HT4r:=hd' h5;clear h5;go_wp2_with fail;refine(r5).mono ?_;rintro e w5 ⟨rfl,hb5⟩;have HT5:Hid (Below w1.heap.size w1 w5):=hd' (HT4.out.trans (hb5.mono HT4.out.size));clear hb5;clear r5 k15 k16
           go_upto_region 10 with fail
           have k9:w5.cell? ⟨w.heap.size,9,none⟩=some (.int .i64 s.scale.num):=(HR.out.low HT5.out HR.out.blk).cell (j:=9) rfl;have k13:w5.cell? ⟨w.heap.size,13,none⟩=some (.int .i64 s.min.num):=(HR.out.low HT5.out HR.out.blk).cell (j:=13) rfl;have k14:w5.cell? ⟨w.heap.size,14,none⟩=some (.int .i64 s.min.den):=(HR.out.low HT5.out HR.out.blk).cell (j:=14) rfl;have k15:w5.cell? ⟨w.heap.size,15,none⟩=some (.int .i64 s.max.num):=(HR.out.low HT5.out HR.out.blk).cell (j:=15) rfl;have k16:w5.cell? ⟨w.heap.size,16,none⟩=some (.int .i64 s.max.den):=(HR.out.low HT5.out HR.out.blk).cell (j:=16) rfl
           by_cases hz:s.scale.num=0
           ·have e1:(s.scale.num==0)=true:=by simp[hz]
            have hrn:s.rangedNo=10:=by rw[ranged_of,if_neg (by rw[HT1r.out,HT2r.out,HT3r.out,HT4r.out];simp),if_pos hz]
            rw[hrn,if_pos (by decide)]at hans;clear hrn;clear hz;have HE:Hid (ans=10):=hd' hans.symm;clear hans;go_wp2_with fail;go_ret;exact⟨by rw[HE.out];rfl,HB.out.trans (HT5.out.mono HB.out.size)⟩
           ·have e1:(s.scale.num==0)=false:=by simp[hz]
            have HZN:=hd' hz;clear hz
            go_upto_region 12 with fail
            clear k9 e1;have hab:=above_any s.min s.max HS.out.min HS.out.max HT3r.out HT4r.out w5;unfold rtV at hab
            cases hup:s.min.above s.max with
            | true=>
             rw[hup]at hab
             have hrn:s.rangedNo=18:=by rw[ranged_of,if_neg (by rw[HT1r.out,HT2r.out,HT3r.out,HT4r.out];simp),if_neg HZN.out,if_pos hup]
             rw[hrn,if_pos (by decide)]at hans;clear hrn;clear hup;have HE:Hid (ans=18):=hd' hans.symm;clear hans;go_wp2_with fail;refine(hab).mono ?_;rintro e w6 ⟨rfl,hb6⟩;have HT6:Hid (Below w1.heap.size w1 w6):=hd' (HT5.out.trans (hb6.mono HT5.out.size));clear hb6;clear hab k13 k14 k15 k16;go_wp2_with fail;go_ret;exact⟨by rw[HE.out];rfl,HB.out.trans (HT6.out.mono HB.out.size)⟩
            | false=>
             rw[hup]at hab
             have hrn:s.rangedNo=0:=by rw[ranged_of,if_neg (by rw[HT1r.out,HT2r.out,HT3r.out,HT4r.out];simp),if_neg HZN.out,if_neg (by rw[hup];simp)]
             rw[hrn,if_neg (by decide)]at hans;clear hrn;clear hup;go_wp2_with fail;refine(hab).mono ?_;rintro e w6 ⟨rfl,hb6⟩;have HT6:Hid (Below w1.heap.size w1 w6):=hd' (HT5.out.trans (hb6.mono HT5.out.size));clear hb6;clear hab k13 k14 k15 k16
             go_upto_region 14 with fail
             have k17:w6.cell? ⟨w.heap.size,17,none⟩=some (.string s.unit):=(HR.out.low HT6.out HR.out.blk).cell (j:=17) rfl;have hmy:=may_any s.unit w6 HS.out.unit
             by_cases hm0:B.textNo s.unit=0
             ·rw[hm0]at hmy
              rw[if_neg (by rw[hm0];simp)]at hans;clear hm0;go_wp2_with fail;refine(hmy).mono ?_;rintro e w7 ⟨rfl,hb7⟩;have HT7:Hid (Below w1.heap.size w1 w7):=hd' (HT6.out.trans (hb7.mono HT6.out.size));clear hb7;clear hmy k17
              go_upto_region 17 with fail
              have k18:w7.cell? ⟨w.heap.size,18,none⟩=some (.slice a n cap):=(HR.out.low HT7.out HR.out.blk).cell (j:=18) rfl;have hnm:=rnames_any a n cap s.dest w7 (HL.out.below (HB.out.trans (HT7.out.mono HB.out.size)) (lR' _)) HS.out.dest hn;rw[hans]at hnm;clear hans;go_wp2_with fail;refine hnm.mono ?_;rintro e w8 ⟨rfl,hb8⟩;go_wp2_with fail;go_ret;exact⟨rfl,HB.out.trans ((HT7.out.trans (hb8.mono HT7.out.size)).mono HB.out.size)⟩
             ·obtain⟨no,hno⟩:∃no,B.textNo s.unit=no:=⟨_,rfl⟩
              rw[if_pos hm0]at hans;rw[hno]at hm0 hmy hans
              have e9:(no !=0)=true:=by simp[hm0]
              clear hm0 hno;have HE:Hid (ans=no):=hd' hans.symm;clear hans;go_wp2_with fail;refine(hmy).mono ?_;rintro e w7 ⟨rfl,hb7⟩;have HT7:Hid (Below w1.heap.size w1 w7):=hd' (HT6.out.trans (hb7.mono HT6.out.size));clear hb7;clear hmy k17;go_wp2_with fail;go_ret;exact⟨by rw[HE.out];rfl,HB.out.trans (HT7.out.mono HB.out.size)⟩
      ·obtain⟨no,hno⟩:∃no,s.whereNo size=no:=⟨_,rfl⟩
       rw[if_pos hw0]at hans;rw[hno]at hw0 hwh hans
       have e9:(no !=0)=true:=by simp[hw0]
       clear hw0 hno;have HE:Hid (ans=no):=hd' hans.symm;clear hans
       go_wp2_with (first
        | refine wpList_load_mid (by rfl) 71 _ (by rfl) w.heap.size 0 (by rfl) (sigC s (.slice a n cap)).toList _ hrr Tryz.underlying71 (by rfl) (by rw[infoN71];rfl) ?_
        | (go_at_call 58;refine hwh.mono ?_;rintro e wx ⟨rfl,hb1⟩))
       go_ret;exact⟨by rw[HE.out];rfl,HB.out.trans (hb1.mono HB.out.size)⟩
end Code
end Go.Proofs.YtljhklblbafjkaaGreatDoor
namespace Go.Proofs.YtljhklblbafjkaaGreatDoor
open Go.RowKit
namespace Code
attribute [local go_sem ↓] Go.wp_at_zero Go.wp_at_succ
def shareB(s t:B.Sig):Bool:=s.bits.any (fun b=>decide (b∈t.bits))
theorem meets_eq(s t:B.Sig):B.meets s t=(togB s t&&shareB s t):=rfl
set_option maxRecDepth 100000 in
set_option maxHeartbeats 6400000 in
theorem share_any(s t:B.Sig)(tv uv:Value)(w:World)(hs:s.placeNo=0)(ht:t.placeNo=0):
    Calls Tryz.prog 33 #[.agg (sigC s tv),.agg (sigC t uv)] w (fun e w'=>e= .returned (.bool (shareB s t))∧Below w.heap.size w w'):=by
 have hrow:=RC.new (sigC s tv) 71 w (n:=19) rfl rfl;have hbel:Below w.heap.size w (w.alloc (.cells (sigC s tv) 71)):=(Below.refl _ _).alloc (lR' _) _;obtain⟨w1,hw1⟩:∃w1,w.alloc (.cells (sigC s tv) 71)=w1:=⟨_,rfl⟩;rw[hw1]at hrow hbel;have hrow2:=RC.new (sigC t uv) 71 w1 (n:=19) rfl rfl;have hb12:Below w1.heap.size w1 (w1.alloc (.cells (sigC t uv) 71)):=(Below.refl _ _).alloc (lR' _) _;obtain⟨w2,hw2⟩:∃w2,w1.alloc (.cells (sigC t uv) 71)=w2:=⟨_,rfl⟩;rw[hw2]at hrow2 hb12;have hrr1:=RC.range (hrow.low hb12 hrow.blk);have HROW2:=hd' hrow2;have HB:=hd' (hbel.trans (hb12.mono hbel.size))
 have hl1:s.bits.length≤64:=by rw[s.bits_length];have:=(B.Sig.place_ok hs).1;omega
 have hl2:t.bits.length≤64:=by rw[t.bits_length];have:=(B.Sig.place_ok ht).1;omega
 have hb1:=(rbits_any s tv w2).mono (fun e w' (h:RBitsOut s w2 e w')=>h.1 hs)
 have hb2:=fun wz=>(rbits_any t uv wz).mono (fun e w' (h:RBitsOut t wz e w')=>h.1 ht)
 obtain⟨L,hL⟩:∃L,s.bits.length=L:=⟨_,rfl⟩;obtain⟨M,hM⟩:∃M,t.bits.length=M:=⟨_,rfl⟩;rw[hL]at hb1 hl1;rw[hM]at hb2 hl2;have HLL:=hd' hL;have HMM:=hd' hM;obtain⟨ans,hans⟩:∃ans,shareB s t=ans:=⟨_,rfl⟩;rw[hans];have HA:=hd' hans;clear hrow hbel hrow2 hb12 hs ht hL hM hans;go_enter Tryz.func33,Tryz.ntmps33
 go_upto_region 1 with fail
 try rw[hw1]
 try rw[hw2]
 clear hw1 hw2
 go_upto_region 2 with(first
  | refine wpList_load_mid (by rfl) 71 _ (by rfl) w.heap.size 0 (by rfl) (sigC s tv).toList _ hrr1 Tryz.underlying71 (by rfl) (by rw[infoN71];rfl) ?_
  | (go_at_call 63;refine hb1.mono ?_;rintro e w3 ⟨ao,cap,rfl,hown,hb3⟩))
 have hrr2:=RC.range (HROW2.out.low hb3 HROW2.out.blk);have HB3:=hd' (HB.out.trans (hb3.mono HB.out.size));have HOW:=hd' hown;clear hrr1 hb1 hown hb3
 go_upto_region 3 with(first
  | refine wpList_load_mid (by rfl) 71 _ (by rfl) w1.heap.size 0 (by rfl) (sigC t uv).toList _ hrr2 Tryz.underlying71 (by rfl) (by rw[infoN71];rfl) ?_
  | (go_at_call 63;refine(hb2 _).mono ?_;rintro e w4 ⟨bo,bcap,rfl,hown,hb4⟩))
 have HB4:=hd' (HB3.out.trans (hb4.mono HB3.out.size));have HOW1:=hd' (HOW.out.kept hb4);have HOW2:=hd' hown;clear hrr2 hb2 hown hb4 HOW;go_wp2_with fail
 go_loopw [9] (fun i wr=>∃k:Nat,k≤L∧i= .int .i64 (k:Int)∧Hid (Below w4.heap.size w4 wr∧∀j b,j<k→s.bits[j]? =some b→b∉t.bits)) (fun i _=>L-(intOf i).toNat)
 case atStart=>exact⟨0,by omega,rfl,hd' ⟨Below.refl _ _,fun j b h=>by omega⟩⟩
 case round=>
  obtain⟨i,hi,rfl,HI⟩:=hrel
  by_cases hlt:i<L
  ·have e1:((i:Int)<(L:Int))=True:=by simp;omega
   have q0:(0:Int)≤(i:Int):=by omega
   have q1:(i:Int)<L:=by omega
   have hb:s.bits[i]? =some (s.bits[i]'(by have:=HLL.out;omega)):=List.getElem?_eq_getElem _;generalize s.bits[i]'(by have:=HLL.out;omega)=b at hb;obtain⟨g,rfl,_,hg2,hc⟩:=HOW1.out.cell (i:=i) (v:=natV b) (by rw[List.getElem?_map,hb];rfl);unfold natV at hc;have HC1:=hd' (fun(wz:World) (h:Below w4.heap.size w4 wz)=>(h.cell (p:=⟨g,i,none⟩) hg2).trans hc);have HBB:=hd' hb;have HB0:=hd' HI.out.1;clear hb hg2 hc;go_wp2_with fail
   go_loopw [10] (fun kk wr=>∃k:Nat,k≤M∧kk= .int .i64 (k:Int)∧Hid (Below w4.heap.size w4 wr∧∀j c,j<k→t.bits[j]? =some c→c≠b)) (fun kk _=>M-(intOf kk).toNat)
   case atStart=>exact⟨0,by omega,rfl,hd' ⟨HB0.out,fun j c h=>by omega⟩⟩
   case round=>
    obtain⟨k,hk,rfl,HK⟩:=hrel;clear HB0
    by_cases hlk:k<M
    ·have e2:((k:Int)<(M:Int))=True:=by simp;omega
     have q2:(0:Int)≤(k:Int):=by omega
     have q3:(k:Int)<M:=by omega
     have hcb:t.bits[k]? =some (t.bits[k]'(by have:=HMM.out;omega)):=List.getElem?_eq_getElem _;generalize t.bits[k]'(by have:=HMM.out;omega)=c at hcb;obtain⟨h,rfl,_,hh2,hd⟩:=HOW2.out.cell (i:=k) (v:=natV c) (by rw[List.getElem?_map,hcb];rfl);unfold natV at hd;have c1:=HC1.out wr HK.out.1;have c2:=(HK.out.1.cell (p:=⟨h,k,none⟩) hh2).trans hd;have HCB:=hd' hcb;have HBD:Hid (∀q,Below w4.heap.size w4 (wr.drewN q)):=hd' (fun q=>belowN HK.out.1 q);clear hcb hh2 hd
     by_cases hcb:c=b
     ·have e5:((b:Int)==(c:Int))=true:=by simp[hcb]
      have HE:Hid (ans=true):=hd' (by
       rw[←HA.out];unfold shareB
       exact List.any_eq_true.2 ⟨b,List.mem_of_getElem? HBB.out,by rw[decide_eq_true_eq,←hcb];exact List.mem_of_getElem? HCB.out⟩)
      clear hcb
      go_upto_region 9 with fail
      go_quiet (fail)
      go_wp2_with fail;go_ret;exact⟨by rw[HE.out];rfl,HB4.out.trans ((HBD.out _).mono HB4.out.size)⟩
     ·have e5:((b:Int)==(c:Int))=false:=by simp;omega
      have HK2:Hid (∀j d,j<k+1→t.bits[j]? =some d→d≠b):=hd' (fun j u hj hu=>by
       rcases Nat.lt_or_ge j k with h | h
       ·exact HK.out.2 j u h hu
       ·obtain rfl:j=k:=by omega
        rw[HCB.out]at hu;obtain rfl:=Option.some.inj hu
        exact hcb)
      clear hcb
      go_upto_region 9 with fail
      go_quiet (fail)
      go_wp2_with fail;go_roundw
      case rel=>exact⟨k+1,by omega,by go_num,hd' ⟨HBD.out _,HK2.out⟩⟩
      case measure=>simp[intOf];omega
    ·obtain rfl:k=M:=by omega
     have e2:((k:Int)<(k:Int))=False:=by simp
     have HN0:Hid (∀j b,j<i+1→s.bits[j]? =some b→b∉t.bits):=hd' (fun j d hj hd=>by
      rcases Nat.lt_or_ge j i with h | h
      ·exact HI.out.2 j d h hd
      ·obtain rfl:j=i:=by omega
       rw[HBB.out]at hd;obtain rfl:=Option.some.inj hd;intro hm;obtain⟨q,hq⟩:=List.getElem?_of_mem hm
       exact HK.out.2 q b (by have:=(List.getElem?_eq_some_iff.1 hq).1;have:=HMM.out;omega) hq rfl)
     have HBK:=hd' HK.out.1;clear HK HI;go_wp2_with fail;go_roundw
     case rel=>exact⟨i+1,by omega,by go_num,hd' ⟨HBK.out,HN0.out⟩⟩
     case measure=>simp[intOf];omega
  ·obtain rfl:i=L:=by omega
   have e1:((i:Int)<(i:Int))=False:=by simp
   have HE:Hid (ans=false):=hd' (by
    rw[←HA.out];unfold shareB;rw[List.any_eq_false];intro b hb;obtain⟨q,hq⟩:=List.getElem?_of_mem hb
    simpa using HI.out.2 q b (by have:=(List.getElem?_eq_some_iff.1 hq).1;have:=HLL.out;omega) hq)
   go_wp2_with fail;go_ret;exact⟨by rw[HE.out];rfl,HB4.out.trans (HI.out.1.mono HB4.out.size)⟩
end Code
end Go.Proofs.YtljhklblbafjkaaGreatDoor
