/- busbarref02: natural numbers by digits: without noughts behind; one digit; of a number. -/
import Derived.Test.YtljhklblbafjkaaGreatDoorRowQ
import Derived.Test.YtljhklblbafjkaaGreatDoorBaseQ
import Derived.Test.YtljhklblbafjkaaGreatDoorNaQ
import Derived.Deep.DrawnRows
import Derived.Deep.Cut
import Derived.Laws.BitsAllLaws
import Derived.Lib.MinMax
import Derived.Deep.QuietTactic
import Derived.BigQuiet
open Go.Lib renaming hid→hd'
open Nat renaming le_refl→lR'
namespace Go.Proofs.YtljhklblbafjkaaGreatDoor
open Go.RowKit
namespace Code
attribute [local go_sem ↓] Go.wp_at_zero Go.wp_at_succ
def u32V(n:Nat):Value:=.int .u32 (n:Int)
def NatAt(w:World)(a:Option Addr)(n:Nat)(v:Nat):Prop:=ListAt w a n ((B.dig v).map u32V)
theorem NatAt.len{w:World}{a:Option Addr}{n v:Nat}(h:NatAt w a n v):n=(B.dig v).length:=by
 have:=ListAt.len h;simpa using this
theorem NatAt.below{N:Nat}{w w':World}{a:Option Addr}{n v:Nat}(h:NatAt w a n v)(hb:Below N w w')(hN:w.heap.size≤N):NatAt w' a n v:=ListAt.below h hb hN
def NatOut(v:Nat)(w:World)(e:Ending)(w':World):Prop:=∃a n c,e= .returned (.slice a n c)∧NatAt w' a n v∧Below w.heap.size w w'∧∀p,a=some p→w.heap.size≤p.block
theorem natList_new(vs:List Value)(C:Array Value)(n X:Nat)(t:TypeId)(w:World)(hC:C.toList=vs)(hn:n=vs.length)(hX:X=w.heap.size):ListAt (w.alloc (.cells C t)) (some ⟨X,0,none⟩) n vs:=by
 subst hX;refine⟨hn,fun i v hv=>⟨w.heap.size,0,rfl,by simp, ?_⟩⟩;rw[cell_of_row _ _ _ _ _ _ (heap_alloc_new w (.cells C t)),Nat.zero_add,←Array.getElem?_toList,hC,hv]
theorem ListAt.take{w:World}{a:Option Addr}{n k:Nat}{vs:List Value}(h:ListAt w a n vs)(hk:k≤n):ListAt w a k (vs.take k):=
 ⟨by rw[List.length_take,←h.len,Nat.min_eq_left hk],fun i v hv=>h.at_ i v (by rw[List.getElem?_take]at hv;split at hv;exact hv;cases hv)⟩
set_option maxHeartbeats 3200000 in
theorem trim_any(a:Option Addr)(n c:Nat)(l:List Nat)(w:World)(hl:ListAt w a n (l.map u32V))(hd:B.Digs l)(hn:n≤c)(hc:c≤9223372036854775807)(ha:a=none→c=0):
    Calls Tryz.prog 127 #[.slice a n c] w (fun e w'=>∃m c',e= .returned (.slice a m c')∧NatAt w' a m (B.dval l)∧w'=w):=by
 have HL:=hd' hl;have HD:=hd' hd
 have hlen:n=l.length:=by have:=hl.len;simpa using this
 have HLEN:=hd' hlen;clear hl hd hlen;go_enter Tryz.func127,Tryz.ntmps127;go_wp2_with fail
 go_loopw [3] (fun i wr=>∃k:Nat,k≤n∧i= .int .i64 (k:Int)∧wr=w∧Hid (∀j,k≤j→j<l.length→l.getD j 0=0)) (fun i _=>(intOf i).toNat)
 case atStart=>exact⟨n,lR' _,rfl,by first | rfl | trivial,hd' fun j h1 h2=>by have:=HLEN.out;omega⟩
 case round=>
  obtain⟨k,hk,rfl,rfl,HZ⟩:=hrel
  by_cases h0:k=0
  ·subst h0
   have e1:(((0:Nat):Int)>0)=False:=by simp
   go_wp2_with fail;go_ret;refine⟨0,_,rfl, ?_,rfl⟩;have e:=B.trim_dig (n:=0) HD.out (Nat.zero_le _) HZ.out (.inl rfl);have:=HL.out.take (k:=0) (Nat.zero_le _);rw[←List.map_take,e]at this;exact this
  ·obtain⟨k,rfl⟩:∃j,k=j+1:=⟨k-1,by omega⟩
   have hx:l[k]? =some (l[k]'(by have:=HLEN.out;omega)):=List.getElem?_eq_getElem _;generalize l[k]'(by have:=HLEN.out;omega)=x at hx;obtain⟨b,off,rfl,hlt,hcx⟩:=HL.out.at_ k (.int .u32 (x:Int)) (by rw[List.getElem?_map,hx];rfl);have HX:=hd' hx
   have hxx:l.getD k 0=x:=by rw[List.getD_eq_getElem?_getD,hx];rfl
   have e1:(((k+1:Nat):Int)>0)=True:=by simp
   have q0:(0:Int)≤(k:Int):=by omega
   have q1:(k:Int)<n:=by omega
   clear hx
   by_cases hz:x=0
   ·subst hz
    go_wp2_with fail;go_roundw
    case rel=>exact⟨k,by omega,by go_num,by first | rfl | trivial,hd' fun j h1 h2=>by
     by_cases e:j=k
     ·subst e;exact hxx
     ·exact HZ.out j (by omega) h2⟩
    case measure=>simp[intOf]
   ·have e2:((x:Int)==0)=false:=by simp;omega
    go_wp2_with fail;go_ret;refine⟨k+1,_,rfl, ?_,rfl⟩;have e:=B.trim_dig (n:=k+1) HD.out (by have:=HLEN.out;omega) HZ.out (.inr (by rw[Nat.add_sub_cancel,hxx];exact hz));have:=HL.out.take (k:=k+1) (by omega);rw[←List.map_take,e]at this;exact this
theorem digit_any(a:Option Addr)(n c i v:Nat)(w:World)(h:NatAt w a n v):
    Calls Tryz.prog 187 #[.slice a n c,.int .i64 (i:Int)] w (fun e w'=>e= .returned (.int .u64 (((B.dig v).getD i 0:Nat):Int))∧w=w'):=by
 have hlen:=h.len
 by_cases hi:i<n
 ·have hx:(B.dig v)[i]? =some ((B.dig v)[i]'(by omega)):=List.getElem?_eq_getElem _
  have hxl:(B.dig v)[i]'(by omega)<4294967296:=B.digs_dig v _ (List.getElem_mem _);generalize(B.dig v)[i]'(by omega)=x at hx hxl
  have hxx:(B.dig v).getD i 0=x:=by rw[List.getD_eq_getElem?_getD,hx];rfl
  obtain⟨b,off,rfl,hlt,hcx⟩:=ListAt.at_ h i (.int .u32 (x:Int)) (by rw[List.getElem?_map,hx];rfl)
  have q0:(0:Int)≤(i:Int):=by omega
  have q1:(i:Int)<n:=by omega
  have hw:IntKind.u64.wrap (x:Int)=(x:Int):=by rw[IntKind.wrap_u64];omega
  rw[hxx];clear h hlen hx hxx;go_enter Tryz.func187,Tryz.ntmps187;go_wp2_with fail;go_ret;exact⟨rfl,rfl⟩
 ·have hxx:(B.dig v).getD i 0=0:=by rw[List.getD_eq_getElem?_getD,List.getElem?_eq_none (by omega)];rfl
  have q1:¬(i:Int)<n:=by omega
  rw[hxx];clear h hlen hxx;go_enter Tryz.func187,Tryz.ntmps187;go_wp2_with fail;go_ret;exact⟨rfl,rfl⟩
end Code
end Go.Proofs.YtljhklblbafjkaaGreatDoor
namespace Go.Proofs.YtljhklblbafjkaaGreatDoor
open Go.RowKit
namespace Code
attribute [local go_sem ↓] Go.wp_at_zero Go.wp_at_succ
theorem wrap32(n:Nat):IntKind.u32.wrap (n:Int)=((n%4294967296:Nat):Int):=by
 simp[IntKind.wrap,IntKind.signed,IntKind.bits]
set_option maxHeartbeats 3200000 in
theorem from_any(n:Nat)(w:World)(hn:n<18446744073709551616):Calls Tryz.prog 88 #[.int .u64 (n:Int)] w (NatOut n w):=by
 have h1:=wrap32 n;have h2:=wrap32 (n/4294967296);go_enter Tryz.func88,Tryz.ntmps88;go_wp2_with fail;have hA:=natList_new (([n%4294967296,n/4294967296]:List Nat).map u32V) #[.int .u32 ((n:Int)%4294967296),.int .u32 ((n:Int)/4294967296)] 2 w.heap.size 24 w rfl rfl rfl;have hb:Below w.heap.size w (w.alloc (.cells #[.int .u32 ((n:Int)%4294967296),.int .u32 ((n:Int)/4294967296)] 24)):=(Below.refl _ _).alloc (lR' _) _
 refine(trim_any _ 2 2 _ _ hA (fun d hd=>by
  rcases List.mem_cons.1 hd with rfl | hd
  ·omega
  ·obtain rfl:=List.mem_singleton.1 hd
   omega) (lR' _) (by omega) (fun e=>by cases e)).mono ?_
 rintro e w' ⟨m,c',rfl,hN,rfl⟩
 have ev:B.dval [n%4294967296,n/4294967296]=n:=by simp[B.dval];omega
 rw[ev]at hN;clear h1 h2 hA ev;go_wp2_with fail;go_ret;exact⟨_,m,c',rfl,hN,hb,fun p e=>by cases e;exact lR' _⟩
end Code
end Go.Proofs.YtljhklblbafjkaaGreatDoor
namespace Go.Proofs.YtljhklblbafjkaaGreatDoor
open Go.RowKit
namespace Code
attribute [local go_sem ↓] Go.wp_at_zero Go.wp_at_succ
theorem infoU32:(Tryz.prog.info? 24).map (fun i=>(i.zero,i.size,i.bytes))=some (some (.int .u32 0),1,4):=by kernel_rfl
set_option maxHeartbeats 6400000 in
theorem plus_any(a b:Option Addr)(na ca nb cb x y:Nat)(w:World)(ha:NatAt w a na x)(hb:NatAt w b nb y)(hna:na≤1000000)(hnb:nb≤1000000):
    Calls Tryz.prog 158 #[.slice a na ca,.slice b nb cb] w (NatOut (x+y) w):=by
 have HA:=hd' ha;have HB:=hd' hb;have HLA:=hd' ha.len;have HLB:=hd' hb.len;clear ha hb;go_enter Tryz.func158,Tryz.ntmps158;go_wp2_with fail
 go_loopw [5,6,7] (fun l cr i wr=>∃(k c cc:Nat) (ao:Option Addr),k≤max na nb+1∧i= .int .i64 (k:Int)∧cr= .int .u64 (c:Int)∧l= .slice ao k cc∧Below w.heap.size w wr∧c≤1∧Hid (∃L,One.OwnV 24 wr w.heap.size ao k cc (L.map u32V)∧B.Digs L∧B.dval L+4294967296^k*c=B.dval ((B.dig x).take k)+B.dval ((B.dig y).take k))) (fun _ _ i _=>max na nb+1-(intOf i).toNat)
 case atStart=>exact⟨0,0,0,none,by omega,rfl,rfl,rfl,Below.refl _ _,by omega,hd' ⟨[],One.OwnV.nil _ _ _,(fun d hd=>by cases hd),by simp[B.dval]⟩⟩
 case round=>
  obtain⟨k,c,cc,ao,hk,rfl,rfl,rfl,hbr,hc1,HI⟩:=hrel;have HBR:=hd' hbr;have hz:w.heap.size≤wr.heap.size:=hbr.size;clear hbr
  by_cases hlt:k≤max na nb
  ·have hd1:=digit_any a na ca k x wr (HA.out.below HBR.out (lR' _))
   have hd2:=digit_any b nb cb k y wr (HB.out.below HBR.out (lR' _));have hx:=B.digs_get (B.digs_dig x) k;have hy:=B.digs_get (B.digs_dig y) k
   have e1:((k:Int)≤max (na:Int) (nb:Int))=True:=by simp;omega
   obtain⟨X,hX⟩:∃X,(B.dig x).getD k 0=X:=⟨_,rfl⟩;obtain⟨Y,hY⟩:∃Y,(B.dig y).getD k 0=Y:=⟨_,rfl⟩;rw[hX]at hd1 hx;rw[hY]at hd2 hy
   have w1:IntKind.u64.wrap ((X:Int)+(Y:Int))=(X:Int)+(Y:Int):=by rw[IntKind.wrap_u64];omega
   have w2:IntKind.u64.wrap ((X:Int)+(Y:Int)+(c:Int))=(X:Int)+(Y:Int)+(c:Int):=by rw[IntKind.wrap_u64];omega
   have w3:IntKind.u32.wrap ((X:Int)+(Y:Int)+(c:Int))=(((X+Y+c)%4294967296:Nat):Int):=by rw[←Int.natCast_add,←Int.natCast_add];exact wrap32 _
   have HXX:=hd' hX;have HYY:=hd' hY;clear hX hY;go_wp2_with fail;refine hd1.mono ?_;rintro e z1 ⟨rfl,rfl⟩;clear hd1;go_wp2_with fail;refine hd2.mono ?_;rintro e z2 ⟨rfl,rfl⟩;clear hd2
   go_upto_region 7 with fail
   have w4:IntKind.u32.wrap ((((X+Y+c):Nat):Int))=(((X+Y+c)%4294967296:Nat):Int):=wrap32 _;obtain⟨L,hL,hdL,hv⟩:=HI.out;have HOW:=hd' hL;have HDL:=hd' hdL;have HVL:=hd' hv;clear hL hdL hv HI
   go_upto_region 8 with(at_builtin;refine One.app_one Tryz.underlying147 infoU32 (by rfl) rfl _ _ rfl w.heap.size rfl HOW.out (by rfl) rfl (by omega) (by omega) hz ?_;intro ao5 cap5 v5 hown5 hkeep5 _ hb5)
   have HOWN5:=hd' hown5;have HB5:=hd' (HBR.out.trans hb5);clear hown5 hkeep5 hb5;go_wp2_with fail;go_roundw
   case rel=>
    have hst:=B.plus_step (a:=B.dig x) (b:=B.dig y) (l:=L) (i:=k) (c:=c) (B.digs_dig x) (B.digs_dig y) (by have:=HOW.out.len;simpa using this.symm) hc1 HVL.out;rw[HXX.out,HYY.out]at hst;refine⟨k+1,(X+Y+c)/4294967296,cap5,ao5,by omega,by go_num,by go_num,rfl,HB5.out,hst.2.1,hd' ⟨L++[(X+Y+c)%4294967296], ?_,B.digs_snoc HDL.out (Nat.mod_lt _ (by decide)),hst.2.2⟩⟩;rw[List.map_append];exact HOWN5.out
   case measure=>simp[intOf];omega
  ·have e1:((k:Int)≤max (na:Int) (nb:Int))=False:=by simp;omega
   obtain⟨L,hL,hdL,hv⟩:=HI.out
   obtain rfl:k=max na nb+1:=by omega
   have hlen:L.length=max na nb+1:=by have:=hL.len;simpa using this.symm
   have hval:B.dval L=x+y:=B.plus_end (a:=x) (b:=y) (c:=c) (l:=L) (by rw[hlen,←HLA.out,←HLB.out]) (by rw[hlen];exact hv)
   have htr:=trim_any ao (max na nb+1) cc L wr (ListAt.ofOwn hL.own) hdL hL.capLe hL.capMax (fun e=>by
    rcases hL.form with⟨_,_,h⟩ | ⟨g,h,_⟩
    ·exact h
    ·rw[h]at e;cases e)
   rw[hval]at htr
   have HFR:Hid (∀p,ao=some p→w.heap.size≤p.block):=hd' (fun p e=>by
    rcases hL.form with⟨h,_⟩ | ⟨g,h,hg,_⟩
    ·rw[h]at e;cases e
    ·rw[h]at e;cases e;exact hg)
   clear hL hdL hv hlen hval HI;go_wp2_with fail;refine htr.mono ?_;rintro e z1 ⟨m,c',rfl,hN,rfl⟩;go_wp2_with fail;go_ret;exact⟨_,m,c',rfl,hN,HBR.out,HFR.out⟩
end Code
end Go.Proofs.YtljhklblbafjkaaGreatDoor
namespace Go.Proofs.YtljhklblbafjkaaGreatDoor
open Go.RowKit
namespace Code
attribute [local go_sem ↓] Go.wp_at_zero Go.wp_at_succ
set_option maxHeartbeats 6400000 in
theorem less_any(a b:Option Addr)(na ca nb cb x y:Nat)(w:World)(ha:NatAt w a na x)(hb:NatAt w b nb y)(hna:na≤1000000)(hxy:y≤x):
    Calls Tryz.prog 160 #[.slice a na ca,.slice b nb cb] w (NatOut (x-y) w):=by
 have HA:=hd' ha;have HB:=hd' hb;have HLA:=hd' ha.len;have HLB:=hd' hb.len;clear ha hb;go_enter Tryz.func160,Tryz.ntmps160;go_wp2_with fail
 go_loopw [5,6,7] (fun l cr i wr=>∃(k c cc:Nat) (ao:Option Addr),k≤na∧i= .int .i64 (k:Int)∧cr= .int .u64 (c:Int)∧l= .slice ao k cc∧Below w.heap.size w wr∧c≤1∧Hid (∃L,One.OwnV 24 wr w.heap.size ao k cc (L.map u32V)∧B.Digs L∧B.dval L+B.dval ((B.dig y).take k)=B.dval ((B.dig x).take k)+4294967296^k*c)) (fun _ _ i _=>na-(intOf i).toNat)
 case atStart=>exact⟨0,0,0,none,by omega,rfl,rfl,rfl,Below.refl _ _,by omega,hd' ⟨[],One.OwnV.nil _ _ _,(fun d hd=>by cases hd),by simp[B.dval]⟩⟩
 case round=>
  obtain⟨k,c,cc,ao,hk,rfl,rfl,rfl,hbr,hc1,HI⟩:=hrel;have HBR:=hd' hbr;have hz:w.heap.size≤wr.heap.size:=hbr.size;clear hbr
  by_cases hlt:k<na
  ·have hd1:=digit_any a na ca k x wr (HA.out.below HBR.out (lR' _))
   have hd2:=digit_any b nb cb k y wr (HB.out.below HBR.out (lR' _));have hx:=B.digs_get (B.digs_dig x) k;have hy:=B.digs_get (B.digs_dig y) k
   have e1:((k:Int)<(na:Int))=True:=by simp;omega
   obtain⟨X,hX⟩:∃X,(B.dig x).getD k 0=X:=⟨_,rfl⟩;obtain⟨Y,hY⟩:∃Y,(B.dig y).getD k 0=Y:=⟨_,rfl⟩;rw[hX]at hd1 hx;rw[hY]at hd2 hy;obtain⟨S,hS⟩:∃S,4294967296+X-Y-c=S:=⟨_,rfl⟩
   have w1:IntKind.u64.wrap (4294967296+(X:Int))=4294967296+(X:Int):=by rw[IntKind.wrap_u64];omega
   have w2:IntKind.u64.wrap (4294967296+(X:Int)-(Y:Int))=4294967296+(X:Int)-(Y:Int):=by rw[IntKind.wrap_u64];omega
   have w3:IntKind.u64.wrap (4294967296+(X:Int)-(Y:Int)-(c:Int))=(S:Int):=by rw[IntKind.wrap_u64];omega
   have w4:=wrap32 S
   have w5:IntKind.u64.wrap (1-(S:Int)/4294967296)=((1-S/4294967296:Nat):Int):=by rw[IntKind.wrap_u64];omega
   have HSS:=hd' hS;clear hS;have HXX:=hd' hX;have HYY:=hd' hY;clear hX hY;go_wp2_with fail;refine hd1.mono ?_;rintro e z1 ⟨rfl,rfl⟩;clear hd1;go_wp2_with fail;refine hd2.mono ?_;rintro e z2 ⟨rfl,rfl⟩;clear hd2
   go_upto_region 7 with fail
   obtain⟨L,hL,hdL,hv⟩:=HI.out;have HOW:=hd' hL;have HDL:=hd' hdL;have HVL:=hd' hv;clear hL hdL hv HI
   go_upto_region 8 with(at_builtin;refine One.app_one Tryz.underlying147 infoU32 (by rfl) rfl _ _ rfl w.heap.size rfl HOW.out (by rfl) rfl (by omega) (by omega) hz ?_;intro ao5 cap5 v5 hown5 hkeep5 _ hb5)
   have HOWN5:=hd' hown5;have HB5:=hd' (HBR.out.trans hb5);clear hown5 hkeep5 hb5;go_wp2_with fail;go_roundw
   case rel=>
    have hst:=B.less_step (a:=B.dig x) (b:=B.dig y) (l:=L) (i:=k) (c:=c) (B.digs_dig x) (B.digs_dig y) (by have:=HOW.out.len;simpa using this.symm) hc1 HVL.out;rw[HXX.out,HYY.out,HSS.out]at hst;refine⟨k+1,1-S/4294967296,cap5,ao5,by omega,by go_num,by go_num,rfl,HB5.out,hst.1,hd' ⟨L++[S%4294967296], ?_,B.digs_snoc HDL.out (Nat.mod_lt _ (by decide)),hst.2⟩⟩;rw[List.map_append];exact HOWN5.out
   case measure=>simp[intOf];omega
  ·have e1:((k:Int)<(na:Int))=False:=by simp;omega
   obtain⟨L,hL,hdL,hv⟩:=HI.out
   obtain rfl:k=na:=by omega
   have hlen:L.length=k:=by have:=hL.len;simpa using this.symm
   have hval:B.dval L=x-y:=B.less_end (a:=x) (b:=y) (c:=c) (l:=L) hdL (by rw[hlen];exact HLA.out) hxy (by rw[hlen];exact hv)
   have htr:=trim_any ao k cc L wr (ListAt.ofOwn hL.own) hdL hL.capLe hL.capMax (fun e=>by
    rcases hL.form with⟨_,_,h⟩ | ⟨g,h,_⟩
    ·exact h
    ·rw[h]at e;cases e)
   rw[hval]at htr
   have HFR:Hid (∀p,ao=some p→w.heap.size≤p.block):=hd' (fun p e=>by
    rcases hL.form with⟨h,_⟩ | ⟨g,h,hg,_⟩
    ·rw[h]at e;cases e
    ·rw[h]at e;cases e;exact hg)
   clear hL hdL hv hlen hval HI;go_wp2_with fail;refine htr.mono ?_;rintro e z1 ⟨m,c',rfl,hN,rfl⟩;go_wp2_with fail;go_ret;exact⟨_,m,c',rfl,hN,HBR.out,HFR.out⟩
set_option maxHeartbeats 6400000 in
theorem held_any(a b:Option Addr)(na ca nb cb x y:Nat)(w:World)(ha:NatAt w a na x)(hb:NatAt w b nb y)(hna:na≤1000000)(hnb:nb≤1000000):
    Calls Tryz.prog 159 #[.slice a na ca,.slice b nb cb] w (fun e w'=>e= .returned (.int .i64 (if x<y then -1 else if y<x then 1 else 0))∧w=w'):=by
 have HA:=hd' ha;have HB:=hd' hb;have HLA:=hd' ha.len;have HLB:=hd' hb.len;clear ha hb;go_enter Tryz.func159,Tryz.ntmps159;go_wp2_with fail
 go_loopw [5] (fun i wr=>∃k:Nat,k≤max na nb∧i= .int .i64 ((k:Int)-1)∧w=wr∧Hid (x/4294967296^k=y/4294967296^k)) (fun i _=>(intOf i+1).toNat)
 case atStart=>exact⟨max na nb,lR' _,by go_num,by first | rfl | trivial,hd' (by rw[HLA.out,HLB.out];exact B.held_start x y)⟩
 case round=>
  obtain⟨k,hk,rfl,rfl,HI⟩:=hrel
  by_cases h0:k=0
  ·subst h0
   have hxy:x=y:=by simpa using HI.out
   subst hxy
   have e1:((((0:Nat):Int)-1)≥0)=False:=by simp
   go_wp2_with fail;go_ret;exact⟨by simp,rfl⟩
  ·obtain⟨k,rfl⟩:∃j,k=j+1:=⟨k-1,by omega⟩
   have ei:(((k+1:Nat):Int)-1)=(k:Int):=by omega
   rw[ei]
   have e1:((k:Int)≥0)=True:=by simp
   have hd1:=digit_any a na ca k x w HA.out;have hd2:=digit_any b nb cb k y w HB.out;have HX:=hd' (rfl:(B.dig x).getD k 0=(B.dig x).getD k 0);obtain⟨X,hX⟩:∃X,(B.dig x).getD k 0=X:=⟨_,rfl⟩;obtain⟨Y,hY⟩:∃Y,(B.dig y).getD k 0=Y:=⟨_,rfl⟩;rw[hX]at hd1;rw[hY]at hd2;have HXX:=hd' hX;have HYY:=hd' hY;clear hX hY HX ei;rcases Nat.lt_trichotomy X Y with h | h | h
   ·have r:x<y:=B.held_lt HI.out (by rw[HXX.out,HYY.out];exact h)
    have e2:((X:Int)<(Y:Int))=True:=by simp;omega
    go_wp2_with fail;refine hd1.mono ?_;rintro e z1 ⟨rfl,rfl⟩;clear hd1;go_wp2_with fail;refine hd2.mono ?_;rintro e z2 ⟨rfl,rfl⟩;clear hd2;go_wp2_with fail;go_ret;exact⟨rfl,rfl⟩
   ·subst h
    have e2:((X:Int)<(X:Int))=False:=by simp
    go_wp2_with fail;refine hd1.mono ?_;rintro e z1 ⟨rfl,rfl⟩;clear hd1;go_wp2_with fail;refine hd2.mono ?_;rintro e z2 ⟨rfl,rfl⟩;clear hd2;go_wp2_with fail;go_roundw
    case rel=>exact⟨k,by omega,by go_num,by first | rfl | trivial,hd' (B.held_eq HI.out (by rw[HXX.out,HYY.out]))⟩
    case measure=>simp[intOf]
   ·have r:y<x:=B.held_lt HI.out.symm (by rw[HXX.out,HYY.out];exact h)
    have e2:((X:Int)<(Y:Int))=False:=by simp;omega
    have e3:((Y:Int)<(X:Int))=True:=by simp;omega
    go_wp2_with fail;refine hd1.mono ?_;rintro e z1 ⟨rfl,rfl⟩;clear hd1;go_wp2_with fail;refine hd2.mono ?_;rintro e z2 ⟨rfl,rfl⟩;clear hd2;go_wp2_with fail;go_ret;exact⟨rfl,rfl⟩
end Code
end Go.Proofs.YtljhklblbafjkaaGreatDoor
namespace Go.Proofs.YtljhklblbafjkaaGreatDoor
open Go.RowKit
namespace Code
attribute [local go_sem ↓] Go.wp_at_zero Go.wp_at_succ
theorem rsize_any(n:Int)(w:World)(h1: -9223372036854775808≤n)(h2:n≤9223372036854775807):
    Calls Tryz.prog 89 #[.int .i64 n] w (fun e w'=>e= .returned (.int .u64 ((n.natAbs:Nat):Int))∧w=w'):=by
 by_cases h:n<0
 ·have w1:IntKind.i64.wrap (n+1)=n+1:=by rw[IntKind.wrap_i64];omega
  have w2:IntKind.i64.wrap (-(n+1))= -(n+1):=by rw[IntKind.wrap_i64];omega
  have w3:IntKind.u64.wrap (-(n+1))= -(n+1):=by rw[IntKind.wrap_u64];omega
  have w4:IntKind.u64.wrap (-(n+1)+1)=((n.natAbs:Nat):Int):=by rw[IntKind.wrap_u64];omega
  go_enter Tryz.func89,Tryz.ntmps89;go_wp2_with fail;go_ret;exact⟨rfl,rfl⟩
 ·have w1:IntKind.u64.wrap n=((n.natAbs:Nat):Int):=by rw[IntKind.wrap_u64];omega
  go_enter Tryz.func89,Tryz.ntmps89;go_wp2_with fail;go_ret;exact⟨rfl,rfl⟩
set_option maxHeartbeats 3200000 in
theorem nword_any(a:Option Addr)(n c v:Nat)(w:World)(h:NatAt w a n v):
    Calls Tryz.prog 90 #[.slice a n c] w (fun e w'=>∃N:Nat,e= .returned (.tuple #[.int .u64 (N:Int),.bool (decide ((n:Int)≤2))])∧(n≤2→N=v)∧w=w'):=by
 have HA:=hd' h;have HLA:=hd' h.len;clear h;go_enter Tryz.func90,Tryz.ntmps90;go_wp2_with fail
 go_loopw [4,5] (fun m i wr=>∃k:Nat,k≤n∧k≤2∧i= .int .i64 (k:Int)∧m= .int .u64 ((B.dval ((B.dig v).take k):Nat):Int)∧w=wr) (fun _ i _=>2-(intOf i).toNat)
 case atStart=>exact⟨0,by omega,by omega,rfl,by simp[B.dval],by first | rfl | trivial⟩
 case round=>
  obtain⟨k,hk,hk2,rfl,rfl,rfl⟩:=hrel
  by_cases hlt:k<n∧k<2
  ·obtain⟨hlt,hlt2⟩:=hlt
   have hx:(B.dig v)[k]? =some ((B.dig v)[k]'(by have:=HLA.out;omega)):=List.getElem?_eq_getElem _;have hxl:(B.dig v)[k]'(by have:=HLA.out;omega)<4294967296:=B.digs_dig v _ (List.getElem_mem _);generalize(B.dig v)[k]'(by have:=HLA.out;omega)=x at hx hxl
   have hxx:(B.dig v).getD k 0=x:=by rw[List.getD_eq_getElem?_getD,hx];rfl
   obtain⟨b,off,rfl,hlb,hcx⟩:=ListAt.at_ HA.out k (.int .u32 (x:Int)) (by rw[List.getElem?_map,hx];rfl);have hs:=B.dval_take_succ (B.dig v) k;rw[hxx]at hs;obtain⟨D,hD⟩:∃D,B.dval ((B.dig v).take k)=D:=⟨_,rfl⟩
   have hDl:D<4294967296^k:=by
    rw[←hD];have:=B.dval_lt (l:=(B.dig v).take k) (fun d hd=>B.digs_dig v d (List.mem_of_mem_take hd));rw[List.length_take,Nat.min_eq_left (by have:=HLA.out;omega)]at this;exact this
   rw[hD]at hs⊢;have HS:=hd' hs
   have e1:((k:Int)<(n:Int))=True:=by simp;omega
   have e2:((k:Int)<2)=True:=by simp;omega
   have q0:(0:Int)≤(k:Int):=by omega
   have q1:(k:Int)<n:=by omega
   have hw:IntKind.u64.wrap (x:Int)=(x:Int):=by rw[IntKind.wrap_u64];omega
   clear hx hxx hs hD;rcases Nat.lt_or_ge k 1 with h1 | h1
   ·obtain rfl:k=0:=by omega
    obtain rfl:D=0:=by simpa using hDl
    have hcx0:w.cell? ⟨b,off,none⟩=some (.int .u32 (x:Int)):=hcx;have hor:=u64_or_nat 0 x (by omega) (by omega);rw[Nat.zero_or]at hor;go_wp2_with fail;go_roundw
    case rel=>exact⟨1,by omega,by omega,by go_num,(by rw[HS.out];simp;exact hor),by first | rfl | trivial⟩
    case measure=>simp[intOf]
   ·obtain rfl:k=1:=by omega
    have hD2:D<4294967296:=by simpa using hDl
    have hor:=u64_or_nat D (x*4294967296) (by omega) (by omega)
    have hoe:D|||x*4294967296=D+4294967296*x:=by
     have:=Nat.two_pow_add_eq_or_of_lt (i:=32) (b:=D) hD2 x;rw[Nat.or_comm,Nat.mul_comm x,Nat.add_comm];exact this.symm
    rw[hoe]at hor
    have hw2:IntKind.u64.wrap ((x:Int)*4294967296)=(x:Int)*4294967296:=by rw[IntKind.wrap_u64];omega
    have hcast:((x*4294967296:Nat):Int)=(x:Int)*4294967296:=by omega
    rw[hcast]at hor;go_wp2_with fail;go_roundw
    case rel=>exact⟨2,by omega,by omega,by go_num,by rw[HS.out];simp,by first | rfl | trivial⟩
    case measure=>simp[intOf]
  ·have hN:n≤2→B.dval ((B.dig v).take k)=v:=fun h=>by
     rw[List.take_of_length_le (by have:=HLA.out;omega),B.dval_dig]
   have HN:=hd' hN;clear hN;rcases Nat.lt_or_ge k n with h1 | h1
   ·have e1:((k:Int)<(n:Int))=True:=by simp;omega
    have e2:((k:Int)<2)=False:=by simp;omega
    go_wp2_with fail;go_ret2;exact⟨_,rfl,HN.out,rfl⟩
   ·have e1:((k:Int)<(n:Int))=False:=by simp;omega
    go_wp2_with fail;go_ret2;exact⟨_,rfl,HN.out,rfl⟩
end Code
end Go.Proofs.YtljhklblbafjkaaGreatDoor
namespace Go.Proofs.YtljhklblbafjkaaGreatDoor
open Go.RowKit
namespace Code
attribute [local go_sem ↓] Go.wp_at_zero Go.wp_at_succ
theorem ownV_blockT{E:TypeId}{w:World}{base n cap g:Nat}{vs:List Value}(h:One.OwnV E w base (some ⟨g,0,none⟩) n cap vs):∃C,w.heap[g]? =some (.cells C E (0,0)):=by
 rcases h.own.2 with⟨e,_⟩ | ⟨g',c,cur,e,_,hh,_⟩
 ·cases e
 ·injection e with e _ _
  injection e with e;injection e with e _ _;subst e;exact⟨_,hh⟩
theorem ownV_free{E:TypeId}{w:World}{base n cap g:Nat}{vs:List Value}(h:One.OwnV E w base (some ⟨g,0,none⟩) n cap vs)(j:Nat):w.frozen? ⟨g,j,none⟩=false:=by
 obtain⟨C,hC⟩:=ownV_blockT h;simp[World.frozen?,hC]
def TimesAt(w wr:World)(ao:Option Addr)(m cc v:Nat)(top:Nat):Prop:=∃L,One.OwnV 24 wr w.heap.size ao m cc (L.map u32V)∧B.Digs L∧B.dval L=v∧(∀j,top≤j→L.getD j 0=0)∧Below w.heap.size w wr
theorem ownV_base{E:TypeId}{w:World}{base n cap g:Nat}{vs:List Value}(h:One.OwnV E w base (some ⟨g,0,none⟩) n cap vs):base≤g:=by
 rcases h.form with⟨e,_⟩ | ⟨g',e,hb,_⟩
 ·cases e
 ·injection e with e
  injection e with e _ _;subst e;exact hb
def InnerAt(w wr:World)(g m cc v0 X i k c top y:Nat):Prop:=∃L,One.OwnV 24 wr w.heap.size (some ⟨g,0,none⟩) m cc (L.map u32V)∧B.Digs L∧B.dval L+4294967296^(i+k)*c=v0+4294967296^i*(X*B.dval ((B.dig y).take k))∧(∀j,top≤j→L.getD j 0=0)∧Below w.heap.size w wr
set_option maxHeartbeats 12800000 in
theorem times_any(a b:Option Addr)(na ca nb cb x y:Nat)(w:World)(ha:NatAt w a na x)(hb:NatAt w b nb y)(hna:na≤1000000)(hnb:nb≤1000000):
    Calls Tryz.prog 161 #[.slice a na ca,.slice b nb cb] w (NatOut (x*y) w):=by
 have HA:=hd' ha;have HB:=hd' hb;have HLA:=hd' ha.len;have HLB:=hd' hb.len;clear ha hb;go_enter Tryz.func161,Tryz.ntmps161;go_wp2_with fail
 go_loopw [5,6] (fun l i wr=>∃(k cc:Nat) (ao:Option Addr),k≤na+nb∧i= .int .i64 (k:Int)∧l= .slice ao k cc∧Hid (TimesAt w wr ao k cc 0 0)) (fun _ i _=>na+nb-(intOf i).toNat)
 case atStart=>exact⟨0,0,none,by omega,rfl,rfl,hd' ⟨[],One.OwnV.nil _ _ _,(fun d hd=>by cases hd),rfl,(fun j _=>by simp),Below.refl _ _⟩⟩
 case round=>
  obtain⟨k,cc,ao,hk,rfl,rfl,HI⟩:=hrel
  by_cases hlt:k<na+nb
  ·have e1:((k:Int)<(na:Int)+(nb:Int))=True:=by simp;omega
   obtain⟨L,hL,hd,hv,hz0,hbr⟩:=HI.out;have hz:w.heap.size≤wr.heap.size:=hbr.size;have HOW:=hd' hL;have HD:=hd' hd;have HV:=hd' hv;have HZ:=hd' hz0;have HBR:=hd' hbr;clear hL hd hv hz0 hbr HI
   go_upto_region 4 with(at_builtin;refine One.app_one Tryz.underlying147 infoU32 (by rfl) rfl _ _ rfl w.heap.size rfl HOW.out (by rfl) rfl (by omega) (by omega) hz ?_;intro ao5 cap5 v5 hown5 hkeep5 _ hb5)
   have HOWN5:=hd' hown5;have HB5:=hd' (HBR.out.trans hb5);clear hown5 hkeep5 hb5;go_wp2_with fail;go_roundw
   case rel=>
    refine⟨k+1,cap5,ao5,by omega,by go_num,rfl,hd' ⟨L++[0], ?_,B.digs_snoc HD.out (by decide),by rw[B.dval_snoc,HV.out];rfl,fun j _=> ?_,HB5.out⟩⟩
    ·rw[List.map_append]
     exact HOWN5.out
    ·rw[List.getD_eq_getElem?_getD]
     by_cases e:j<L.length
     ·rw[List.getElem?_append_left e,←List.getD_eq_getElem?_getD]
      exact HZ.out j (Nat.zero_le _)
     ·rw[List.getElem?_append_right (by omega)]
      rcases Nat.eq_zero_or_pos (j-L.length)with e2 | e2
      ·rw[e2];rfl
      ·rw[List.getElem?_eq_none (by simp;omega)];rfl
   case measure=>simp[intOf];omega
  ·obtain rfl:k=na+nb:=by omega
   have e1:(((na+nb:Nat):Int)<(na:Int)+(nb:Int))=False:=by simp
   clear hlt hk;go_wp2_with fail
   go_loopw [7] (fun i wr2=>∃k:Nat,k≤na∧i= .int .i64 (k:Int)∧Hid (TimesAt w wr2 ao (na+nb) cc (B.dval ((B.dig x).take k)*y) (k+nb))) (fun i _=>na-(intOf i).toNat)
   case atStart=>
    obtain⟨L,hL,hd,hv,hz0,hbr⟩:=HI.out;exact⟨0,by omega,rfl,hd' ⟨L,hL,hd,by rw[hv];simp[B.dval],fun j _=>hz0 j (Nat.zero_le _),hbr⟩⟩
   case round=>
    obtain⟨i,hi,rfl,HI2⟩:=hrel;clear HI e1
    by_cases hlt:i<na
    ·have e1:((i:Int)<(na:Int))=True:=by simp;omega
     have hx:(B.dig x)[i]? =some ((B.dig x)[i]'(by have:=HLA.out;omega)):=List.getElem?_eq_getElem _;have hxl:(B.dig x)[i]'(by have:=HLA.out;omega)<4294967296:=B.digs_dig x _ (List.getElem_mem _);generalize(B.dig x)[i]'(by have:=HLA.out;omega)=X at hx hxl;have HXX:Hid ((B.dig x).getD i 0=X):=hd' (by rw[List.getD_eq_getElem?_getD,hx];rfl);obtain⟨ba,oa,rfl,hla,hca⟩:=ListAt.at_ HA.out i (.int .u32 (X:Int)) (by rw[List.getElem?_map,hx];rfl);have HCA:=hd' hca;obtain⟨L0,hL0,hd0,hv0,hz00,hbr0⟩:=HI2.out
     obtain⟨g,rfl⟩:∃g,ao=some ⟨g,0,none⟩:=by
      rcases hL0.form with⟨_,h,_⟩ | ⟨g,h,_⟩
      ·omega
      ·exact⟨g,h⟩
     have HS0:Hid (InnerAt w wr g (na+nb) cc (B.dval ((B.dig x).take i)*y) X i 0 0 (i+nb) y):=hd' ⟨L0,hL0,hd0,by rw[hv0];simp[B.dval],hz00,hbr0⟩;clear hL0 hd0 hv0 hz00 hbr0 hx hca HI2;go_wp2_with fail
     go_loopw [8,9] (fun cr kk wr3=>∃k c:Nat,k≤nb∧kk= .int .i64 (k:Int)∧cr= .int .u64 (c:Int)∧c<4294967296∧Hid (InnerAt w wr3 g (na+nb) cc (B.dval ((B.dig x).take i)*y) X i k c (i+nb) y)) (fun _ kk _=>nb-(intOf kk).toNat)
     case atStart=>exact⟨0,0,by omega,rfl,rfl,by omega,HS0⟩
     case round=>
      obtain⟨k,c,hk,rfl,rfl,hc,HI3⟩:=hrel;clear HS0;obtain⟨L,hL,hd,hv,hz0,hbr⟩:=HI3.out
      have hll:L.length=na+nb:=by have:=hL.len;simpa using this.symm
      have HOW:=hd' hL;have HD:=hd' hd;have HV:=hd' hv;have HZ:=hd' hz0;have HBR:=hd' hbr;have HLL:=hd' hll;clear hL hd hv hz0 hbr hll HI3
      by_cases hlk:k<nb
      ·have e2:((k:Int)<(nb:Int))=True:=by simp;omega
       have hy:(B.dig y)[k]? =some ((B.dig y)[k]'(by have:=HLB.out;omega)):=List.getElem?_eq_getElem _;have hyl:(B.dig y)[k]'(by have:=HLB.out;omega)<4294967296:=B.digs_dig y _ (List.getElem_mem _);generalize(B.dig y)[k]'(by have:=HLB.out;omega)=Y at hy hyl;have HYY:Hid ((B.dig y).getD k 0=Y):=hd' (by rw[List.getD_eq_getElem?_getD,hy];rfl);obtain⟨bb,ob,rfl,hlb,hcb⟩:=ListAt.at_ HB.out k (.int .u32 (Y:Int)) (by rw[List.getElem?_map,hy];rfl);have hst:=B.times_step (l:=L) (b:=B.dig y) (x:=X) (i:=i) (k:=k) (c:=c) HD.out (B.digs_dig y) hxl hc (by have:=HLL.out;omega) HV.out;rw[HYY.out]at hst;obtain⟨Z,hZ⟩:∃Z,L.getD (i+k) 0=Z:=⟨_,rfl⟩;rw[hZ]at hst
       have hzl:L[i+k]? =some Z:=by
        rw[←hZ,List.getD_eq_getElem?_getD,List.getElem?_eq_getElem (by have:=HLL.out;omega)];rfl
       have hcz:wr.cell? ⟨g,i+k,none⟩=some (.int .u32 (Z:Int)):=by
        have:=World.ownsRow.cellAt HOW.out.own (i+k) (by omega);rw[this,List.getElem?_map,hzl];rfl
       have hfz:=ownV_free HOW.out (i+k);have ka:wr.cell? ⟨ba,oa+i,none⟩=some (.int .u32 (X:Int)):=(HBR.out.cell (p:=⟨ba,oa+i,none⟩) hla).trans HCA.out;have kb:wr.cell? ⟨bb,ob+k,none⟩=some (.int .u32 (Y:Int)):=(HBR.out.cell (p:=⟨bb,ob+k,none⟩) hlb).trans hcb
       have hZl:Z<4294967296:=by rw[←hZ];exact B.digs_get HD.out _
       obtain⟨P,hP⟩:∃P,X*Y=P:=⟨_,rfl⟩;rw[hP]at hst;obtain⟨S,hS⟩:∃S,P+Z+c=S:=⟨_,rfl⟩;rw[hS]at hst;obtain⟨hs1,hs2,hs3⟩:=hst
       have w0x:IntKind.u64.wrap (X:Int)=(X:Int):=by rw[IntKind.wrap_u64];omega
       have w0y:IntKind.u64.wrap (Y:Int)=(Y:Int):=by rw[IntKind.wrap_u64];omega
       have w0z:IntKind.u64.wrap (Z:Int)=(Z:Int):=by rw[IntKind.wrap_u64];omega
       have w1:IntKind.u64.wrap ((X:Int)*(Y:Int))=(P:Int):=by rw[←Int.natCast_mul,hP,IntKind.wrap_u64];omega
       have w2:IntKind.u64.wrap ((P:Int)+(Z:Int))=(P:Int)+(Z:Int):=by rw[IntKind.wrap_u64];omega
       have w3:IntKind.u64.wrap ((P:Int)+(Z:Int)+(c:Int))=(S:Int):=by rw[IntKind.wrap_u64];omega
       have w4:=wrap32 S
       have q0:(0:Int)≤(i:Int)+(k:Int):=by omega
       have q1:(i:Int)+(k:Int)<(na:Int)+(nb:Int):=by omega
       have q2:(i:Int)<(na:Int):=by omega
       have q3:(k:Int)<(nb:Int):=by omega
       have q4:IntKind.i64.wrap ((i:Int)+(k:Int))=(i:Int)+(k:Int):=by rw[IntKind.wrap_i64];omega
       have q5:((i:Int)+(k:Int)).toNat=i+k:=by omega
       have HS3:=hd' hs3;clear hs3 hy hcb hzl hZ hP hS hs1
       have HIN:Hid (∀m,InnerAt w ((wr.drewN m).setCell ⟨g,i+k,none⟩ (.int .u32 ((S:Int)%4294967296))) g (na+nb) cc (B.dval ((B.dig x).take i)*y) X i (k+1) (S/4294967296) (i+nb) y):=hd' (fun m=>by
        have hbd:Below wr.heap.size wr (wr.drewN m):=⟨rfl,rfl,rfl,lR' _,fun _ _=>rfl⟩;have ho:=HOW.out.kept hbd;refine⟨L.set (i+k) (S%4294967296), ?_,B.digs_set HD.out _ (Nat.mod_lt _ (by decide)),HS3.out,fun j hj=> ?_,(HBR.out.trans (hbd.mono HBR.out.size)).setCell (ownV_base HOW.out) _⟩
        ·rw[List.map_set]
         exact One.OwnV.put ho (i+k) (.int .u32 ((S:Int)%4294967296))
        ·rw[List.getD_eq_getElem?_getD,List.getElem?_set,if_neg (by omega),←List.getD_eq_getElem?_getD]
         exact HZ.out j hj)
       go_upto_region 13 with fail
       go_quiet (fail)
       go_upto_region 15 with fail
       clear hcz hfz ka kb w0x w0y w0z w1 w2 w3 w4;go_wp2_with fail;go_roundw
       case rel=>exact⟨k+1,S/4294967296,by omega,by go_num,by go_num,hs2,hd' (HIN.out _)⟩
       case measure=>simp[intOf];omega
      ·obtain rfl:k=nb:=by omega
       have e2:((k:Int)<(k:Int))=False:=by simp
       have hzl:L[i+k]? =some 0:=by
        have:=HZ.out (i+k) (lR' _);rw[List.getD_eq_getElem?_getD,List.getElem?_eq_getElem (by have:=HLL.out;omega)]at this;rw[List.getElem?_eq_getElem (by have:=HLL.out;omega)];exact congrArg some this
       have hcz:wr.cell? ⟨g,i+k,none⟩=some (.int .u32 0):=by
        have:=World.ownsRow.cellAt HOW.out.own (i+k) (by omega);rw[this,List.getElem?_map,hzl];rfl
       have hfz:=ownV_free HOW.out (i+k)
       have w4:IntKind.u32.wrap (c:Int)=(c:Int):=by rw[wrap32,Nat.mod_eq_of_lt hc]
       have q0:(0:Int)≤(i:Int)+(k:Int):=by omega
       have q1:(i:Int)+(k:Int)<(na:Int)+(k:Int):=by omega
       have q4:IntKind.i64.wrap ((i:Int)+(k:Int))=(i:Int)+(k:Int):=by rw[IntKind.wrap_i64];omega
       have q5:((i:Int)+(k:Int)).toNat=i+k:=by omega
       have hown:=One.OwnV.put HOW.out (i+k) (.int .u32 (c:Int));have hbb:Below w.heap.size w (wr.setCell ⟨g,i+k,none⟩ (.int .u32 (c:Int))):=HBR.out.setCell (ownV_base HOW.out) _
       have HIN:Hid (TimesAt w (wr.setCell ⟨g,i+k,none⟩ (.int .u32 (c:Int))) (some ⟨g,0,none⟩) (na+k) cc (B.dval ((B.dig x).take (i+1))*y) (i+1+k)):=hd' ⟨L.set (i+k) c,by rw[List.map_set];exact hown,B.digs_set HD.out _ hc,by
        have h1:=B.dval_set (l:=L) (j:=i+k) (d:=c) (by have:=HLL.out;omega);rw[HZ.out (i+k) (lR' _),Nat.mul_zero,Nat.add_zero,HV.out,show(B.dig y).take k=B.dig y from List.take_of_length_le (by rw[HLB.out];exact lR' _),B.dval_dig y]at h1
        rw[h1,B.dval_take_succ,HXX.out,Nat.add_mul,Nat.mul_assoc],fun j hj=>by
        rw[List.getD_eq_getElem?_getD,List.getElem?_set,if_neg (by omega),←List.getD_eq_getElem?_getD]
        exact HZ.out j (by omega),hbb⟩
       clear hown hbb hzl
       go_upto_region 8 with fail
       generalize wr.setCell ⟨g,i+k,none⟩ (.int .u32 (c:Int))=w9 at*;clear hcz hfz w4;go_wp2_with fail;go_roundw
       case rel=>exact⟨i+1,by omega,by go_num,HIN⟩
       case measure=>simp[intOf];omega
    ·obtain rfl:i=na:=by omega
     have e1:((i:Int)<(i:Int))=False:=by simp
     obtain⟨L,hL,hd,hv,_,hbr⟩:=HI2.out
     have hval:B.dval L=x*y:=by rw[hv,show(B.dig x).take i=B.dig x from List.take_of_length_le (by rw[HLA.out];exact lR' _),B.dval_dig]
     have htr:=trim_any ao (i+nb) cc L wr (ListAt.ofOwn hL.own) hd hL.capLe hL.capMax (fun e=>by
      rcases hL.form with⟨_,_,h⟩ | ⟨g,h,_⟩
      ·exact h
      ·rw[h]at e;cases e)
     rw[hval]at htr;have HBR:=hd' hbr
     have HFR:Hid (∀p,ao=some p→w.heap.size≤p.block):=hd' (fun p e=>by
      rcases hL.form with⟨h,_⟩ | ⟨g,h,hg,_⟩
      ·rw[h]at e;cases e
      ·rw[h]at e;cases e;exact hg)
     clear hL hd hv hval HI2 hbr;go_wp2_with fail;refine htr.mono ?_;rintro e z1 ⟨m,c',rfl,hN,rfl⟩;go_wp2_with fail;go_ret;exact⟨_,m,c',rfl,hN,HBR.out,HFR.out⟩
end Code
end Go.Proofs.YtljhklblbafjkaaGreatDoor
namespace Go.Proofs.YtljhklblbafjkaaGreatDoor
open Go.RowKit
namespace Code
attribute [local go_sem ↓] Go.wp_at_zero Go.wp_at_succ
def DivAt(w wr:World)(ao:Option Addr)(na cc x y j:Nat)(ra:Option Addr)(rn:Nat):Prop:=∃L,One.OwnV 24 wr w.heap.size ao na cc (L.map u32V)∧B.Digs L∧B.dval L=(x/2^j/y)*2^j∧NatAt wr ra rn (x/2^j%y)∧Below w.heap.size w wr∧∀p g,ra=some p→ao=some ⟨g,0,none⟩→p.block≠g
set_option maxHeartbeats 12800000 in
theorem divided_any(a b:Option Addr)(na ca nb cb x y:Nat)(w:World)(ha:NatAt w a na x)(hb:NatAt w b nb y)(hy:0<y)(hna:na≤1000)(hnb:nb≤1000):
    Calls Tryz.prog 126 #[.slice a na ca,.slice b nb cb] w (fun e w'=>∃a1 n1 c1 a2 n2 c2,e= .returned (.tuple #[.slice a1 n1 c1,.slice a2 n2 c2])∧NatAt w' a1 n1 (x/y)∧NatAt w' a2 n2 (x%y)∧Below w.heap.size w w'):=by
 have HA:=hd' ha;have HB:=hd' hb;have HLA:=hd' ha.len;have HLB:=hd' hb.len;clear ha hb;go_enter Tryz.func126,Tryz.ntmps126;go_wp2_with fail
 go_loopw [6,7] (fun l i wr=>∃(k cc:Nat) (ao:Option Addr),k≤na∧i= .int .i64 (k:Int)∧l= .slice ao k cc∧Hid (TimesAt w wr ao k cc 0 0)) (fun _ i _=>na-(intOf i).toNat)
 case atStart=>exact⟨0,0,none,by omega,rfl,rfl,hd' ⟨[],One.OwnV.nil _ _ _,(fun d hd=>by cases hd),rfl,(fun j _=>by simp),Below.refl _ _⟩⟩
 case round=>
  obtain⟨k,cc,ao,hk,rfl,rfl,HI⟩:=hrel
  by_cases hlt:k<na
  ·have e1:((k:Int)<(na:Int))=True:=by simp;omega
   obtain⟨L,hL,hd,hv,hz0,hbr⟩:=HI.out;have hz:w.heap.size≤wr.heap.size:=hbr.size;have HOW:=hd' hL;have HD:=hd' hd;have HV:=hd' hv;have HZ:=hd' hz0;have HBR:=hd' hbr;clear hL hd hv hz0 hbr HI
   go_upto_region 4 with(at_builtin;refine One.app_one Tryz.underlying147 infoU32 (by rfl) rfl _ _ rfl w.heap.size rfl HOW.out (by rfl) rfl (by omega) (by omega) hz ?_;intro ao5 cap5 v5 hown5 hkeep5 _ hb5)
   have HOWN5:=hd' hown5;have HB5:=hd' (HBR.out.trans hb5);clear hown5 hkeep5 hb5;go_wp2_with fail;go_roundw
   case rel=>
    refine⟨k+1,cap5,ao5,by omega,by go_num,rfl,hd' ⟨L++[0], ?_,B.digs_snoc HD.out (by decide),by rw[B.dval_snoc,HV.out];rfl,fun j _=> ?_,HB5.out⟩⟩
    ·rw[List.map_append]
     exact HOWN5.out
    ·rw[List.getD_eq_getElem?_getD]
     by_cases e:j<L.length
     ·rw[List.getElem?_append_left e,←List.getD_eq_getElem?_getD]
      exact HZ.out j (Nat.zero_le _)
     ·rw[List.getElem?_append_right (by omega)]
      rcases Nat.eq_zero_or_pos (j-L.length)with e2 | e2
      ·rw[e2];rfl
      ·rw[List.getElem?_eq_none (by simp;omega)];rfl
   case measure=>simp[intOf];omega
  ·obtain rfl:k=na:=by omega
   have e1:((k:Int)<(k:Int))=False:=by simp
   clear hlt hk
   have q0:IntKind.i64.wrap (32*(k:Int))=32*(k:Int):=by rw[IntKind.wrap_i64];omega
   have q1:IntKind.i64.wrap (32*(k:Int)-1)=32*(k:Int)-1:=by rw[IntKind.wrap_i64];omega
   go_wp2_with fail;clear q0 q1
   go_loopw [8,9] (fun r i wr2=>∃(j rn rc:Nat) (ra:Option Addr),j≤32*k∧i= .int .i64 ((j:Int)-1)∧r= .slice ra rn rc∧Hid (DivAt w wr2 ao k cc x y j ra rn)) (fun _ i _=>(intOf i+1).toNat)
   case atStart=>
    obtain⟨L,hL,hd,hv,hz0,hbr⟩:=HI.out;have hx0:x/2^(32*k)=0:=Nat.div_eq_of_lt (by have:=B.lt_dig x;rw[←HLA.out,B.pow32]at this;exact this);exact⟨32*k,0,0,none,lR' _,by go_num,rfl,hd' ⟨L,hL,hd,by rw[hv,hx0];simp,by rw[hx0,Nat.zero_mod];exact⟨by rw[B.dig_zero];rfl,fun i v hv=>by rw[B.dig_zero]at hv;simp at hv⟩,hbr,fun p g e=>by cases e⟩⟩
   case round=>
    obtain⟨j,rn,rc,ra,hj,rfl,rfl,HI2⟩:=hrel;clear HI e1
    by_cases h0:j=0
    ·subst h0
     have e1:((((0:Nat):Int)-1)≥0)=False:=by simp
     obtain⟨L,hL,hd,hv,hr,hbr,_⟩:=HI2.out
     have hval:B.dval L=x/y:=by rw[hv];simp
     have htr:=trim_any ao k cc L wr (ListAt.ofOwn hL.own) hd hL.capLe hL.capMax (fun e=>by
      rcases hL.form with⟨_,_,h⟩ | ⟨g,h,_⟩
      ·exact h
      ·rw[h]at e;cases e)
     rw[hval]at htr;have HRR:Hid (NatAt wr ra rn (x%y)):=hd' (by simpa using hr);have HBR:=hd' hbr;clear hL hd hv hval HI2 hbr hr;go_wp2_with fail;refine htr.mono ?_;rintro e z1 ⟨m,c',rfl,hN,rfl⟩;go_wp2_with fail;go_ret2;exact⟨_,m,c',ra,rn,rc,rfl,hN,HRR.out,HBR.out⟩
    ·obtain⟨i,rfl⟩:∃i,j=i+1:=⟨j-1,by omega⟩
     have ei:(((i+1:Nat):Int)-1)=(i:Int):=by omega
     rw[ei]
     have e1:((i:Int)≥0)=True:=by simp
     obtain⟨L,hL,hd,hv,hr,hbr,_⟩:=HI2.out;have hx:(B.dig x)[i/32]? =some ((B.dig x)[i/32]'(by have:=HLA.out;omega)):=List.getElem?_eq_getElem _;have hxl:(B.dig x)[i/32]'(by have:=HLA.out;omega)<4294967296:=B.digs_dig x _ (List.getElem_mem _);generalize(B.dig x)[i/32]'(by have:=HLA.out;omega)=X at hx hxl;have HXX:Hid ((B.dig x).getD (i/32) 0=X):=hd' (by rw[List.getD_eq_getElem?_getD,hx];rfl);obtain⟨ba,oa,rfl,hla,hca⟩:=ListAt.at_ HA.out (i/32) (.int .u32 (X:Int)) (by rw[List.getElem?_map,hx];rfl);have ka:wr.cell? ⟨ba,oa+i/32,none⟩=some (.int .u32 (X:Int)):=(hbr.cell (p:=⟨ba,oa+i/32,none⟩) hla).trans hca
     have q0:(0:Int)≤(i:Int)/32:=by omega
     have q1:(i:Int)/32<(k:Int):=by omega
     have q2:((i:Int)/32).toNat=i/32:=by omega
     have HOW:=hd' hL;have HD:=hd' hd;have HV:=hd' hv;have HRR:=hd' hr;have HBR:=hd' hbr;have hT:=B.bit_dig x i;rw[HXX.out]at hT;obtain⟨T,hTT⟩:∃T,x/2^i%2=T:=⟨_,rfl⟩;rw[hTT]at hT;obtain⟨P,hP⟩:∃P,X/2^(i%32)=P:=⟨_,rfl⟩
     have hPl:P<18446744073709551616:=by rw[←hP];exact Nat.lt_of_le_of_lt (Nat.div_le_self _ _) (by omega)
     have hPc:(X:Int)/2^(i%32)=(P:Int):=by rw[←hP];push_cast;rfl
     have hw:IntKind.u64.wrap ((X:Int)/2^(i%32))=(P:Int):=by rw[hPc,IntKind.wrap_u64];omega
     have hbt:bits .and .u64 (P:Int) 1=(T:Int):=by
      have:=u64_and_nat P 1 hPl (by omega);rw[Nat.and_one_is_mod,←hP,hT,hP]at this;exact this
     have HT:=hd' hTT;clear hL hd hv hr hbr hx hca HI2 ei h0 hT hTT hP hPc
     go_upto_region 11 with fail
     clear hw hbt ka
     have hTl:T<2:=by rw[←HT.out];exact Nat.mod_lt _ (by decide)
     obtain⟨R,hR⟩:∃R,x/2^(i+1)%y=R:=⟨_,rfl⟩;have HRE:=hd' hR
     have hRy:R<y:=by rw[←hR];exact Nat.mod_lt _ hy
     have HN0:Hid (NatAt wr ra rn R):=hd' (by rw[←hR];exact HRR.out);clear hR HRR
     have hyb:y<4294967296^nb:=by rw[HLB.out];exact B.lt_dig y
     have hl0:rn≤nb:=by rw[HN0.out.len];exact B.dig_length_le (Nat.lt_trans hRy hyb)
     have hl1:∀v,v<4294967296*y→(B.dig v).length≤nb+1:=fun v hv=>B.dig_length_le (by
      rw[Nat.pow_succ,Nat.mul_comm]
      exact Nat.lt_of_lt_of_le hv (Nat.mul_le_mul_left _ (Nat.le_of_lt hyb)))
     have hp1:=plus_any ra ra rn rc rn rc R R wr HN0.out HN0.out (by omega) (by omega);go_wp2_with fail;refine hp1.mono ?_;rintro e z1 ⟨a1,n1,c1,rfl,hN1,hb1,hf1⟩
     have hm1:n1≤nb+1:=by rw[hN1.len];exact hl1 _ (by omega)
     have hf:=from_any T z1 (by omega);clear hp1;go_wp2_with fail;refine hf.mono ?_;rintro e z2 ⟨a2,n2,c2,rfl,hN2,hb2,hf2⟩
     have hm2:n2≤nb+1:=by rw[hN2.len];exact hl1 _ (by omega)
     have hp2:=plus_any a1 a2 n1 c1 n2 c2 (R+R) T z2 (hN1.below hb2 (lR' _)) hN2 (by omega) (by omega);clear hf;go_wp2_with fail;refine hp2.mono ?_;rintro e z3 ⟨a3,n3,c3,rfl,hN3,hb3,hf3⟩
     have hm3:n3≤nb+1:=by rw[hN3.len];exact hl1 _ (by omega)
     have HB3:=hd' (HBR.out.trans ((hb1.trans ((hb2.trans (hb3.mono hb2.size)).mono hb1.size)).mono HBR.out.size));have HBD:=hd' (hb1.trans ((hb2.trans (hb3.mono hb2.size)).mono hb1.size));have HN3:=hd' hN3
     have HGL:Hid (∀g,ao=some ⟨g,0,none⟩→g<wr.heap.size):=hd' (fun g e=>by
      rcases HOW.out.form with⟨h,_⟩ | ⟨g',h,_,hlt⟩
      ·rw[h]at e;cases e
      ·rw[h]at e;cases e;exact hlt)
     have HF3:Hid (∀p g,a3=some p→ao=some ⟨g,0,none⟩→p.block≠g):=hd' (fun p g e e2=>by
      have h1:=hf3 p e;have h2:=HGL.out g e2;have h3:=hb1.size;have h4:=hb2.size
      omega)
     have hh:=held_any a3 b n3 c3 nb cb (R+R+T) y z3 hN3 (HB.out.below HB3.out (lR' _)) (by omega) (by omega);obtain⟨H,hH⟩:∃H:Int,(if R+R+T<y then -1 else if y<R+R+T then 1 else 0)=H:=⟨_,rfl⟩;rw[hH]at hh;have HH:=hd' hH;clear hp2 hN1 hN2 hN3 hb1 hb2 hb3 hm1 hm2 hl1 hyb HN0 hH;go_wp2_with fail;refine hh.mono ?_;rintro e z4 ⟨rfl,rfl⟩;clear hh
     by_cases hge:y≤R+R+T
     ·have eh:(H≥0)=True:=by
        rw[←HH.out,if_neg (by omega)]
        split<;>simp
      go_upto_region 13 with fail
      have hls:=less_any a3 b n3 c3 nb cb (R+R+T) y z3 HN3.out (HB.out.below HB3.out (lR' _)) (by omega) hge;go_wp2_with fail;refine hls.mono ?_;rintro e z5 ⟨a5,n5,c5,rfl,hN5,hb5,hf5⟩
      go_upto_region 14 with fail
      have hb5z:Below w.heap.size w z5:=HB3.out.trans (hb5.mono HB3.out.size);have hw5:=HOW.out.kept (HBD.out.trans (hb5.mono HBD.out.size))
      obtain⟨g,rfl⟩:∃g,ao=some ⟨g,0,none⟩:=by
       rcases hw5.form with⟨_,h,_⟩ | ⟨g,h,_⟩
       ·omega
       ·exact⟨g,h⟩
      have hll:L.length=k:=by have:=HOW.out.len;simpa using this.symm
      obtain⟨D,hD⟩:∃D,L.getD (i/32) 0=D:=⟨_,rfl⟩
      have hDl:D<4294967296:=by rw[←hD];exact B.digs_get HD.out _
      have hcz:z5.cell? ⟨g,i/32,none⟩=some (.int .u32 (D:Int)):=by
       have:=World.ownsRow.cellAt hw5.own (i/32) (by omega);rw[this,List.getElem?_map,List.getElem?_eq_getElem (by omega),←hD,List.getD_eq_getElem?_getD,List.getElem?_eq_getElem (by omega)];rfl
      have hfz:=ownV_free hw5 (i/32);have HW5:=hd' hw5;have HDD:=hd' hD;have HB5:=hd' hb5z;have HN5:=hd' hN5;obtain⟨E,hE⟩:∃E,D|||2^(i%32)=E:=⟨_,rfl⟩;have hm32:i%32<32:=Nat.mod_lt _ (by decide);have hpw:2^(i%32)<4294967296:=Nat.pow_lt_pow_right (n:=32) (by decide) hm32
      have hor:bits .or .u32 (D:Int) ((2:Int)^(i%32)%4294967296)=(E:Int):=by
       have h1:((2:Int)^(i%32)%4294967296)=((2^(i%32):Nat):Int):=by
        have:((2:Int)^(i%32))=((2^(i%32):Nat):Int):=by push_cast;rfl
        rw[this];generalize(2:Nat)^(i%32)=Q at hpw;omega
       rw[h1,u32_or_nat D _ hDl hpw,hE]
      obtain⟨d1,d2⟩:=B.div_step (x:=x/2^(i+1)) (b:=y) (Q:=x/2^(i+1)/y) (r:=R) hy (by rw[←HRE.out];exact(Nat.div_add_mod' _ _).symm) hRy T hTl
      have hxi:2*(x/2^(i+1))+T=x/2^i:=by
       rw[←HT.out,Nat.pow_succ,←Nat.div_div_eq_div_mul];omega
      rw[hxi,if_pos (by omega)]at d1 d2;have hqs:=B.quo_set (i:=i) HD.out HV.out (by omega);rw[hD,hE]at hqs;have hg:z5.grownBy (z5.setCell ⟨g,i/32,none⟩ (.int .u32 (E:Int))) (some g):=⟨rfl,rfl,rfl,by simp[World.setCell],fun k _ hk=>Below.heap_setCell _ _ _ _ (fun e=>hk (by rw[e]))⟩
      have HFIN:Hid (DivAt w (z5.setCell ⟨g,i/32,none⟩ (.int .u32 (E:Int))).drew (some ⟨g,0,none⟩) k cc x y i a5 n5):=hd' ⟨L.set (i/32) E,by
          rw[List.map_set]
          exact(One.OwnV.put hw5 (i/32) (.int .u32 (E:Int))).kept ⟨rfl,rfl,rfl,lR' _,fun _ _=>rfl⟩,hqs.2,by rw[hqs.1,d1],by
          rw[d2,show 2*R+T=R+R+T by omega]
          exact⟨ListAt.len hN5,fun q v hv=>by
           obtain⟨b',off,e,hlt,hc⟩:=ListAt.at_ hN5 q v hv;refine⟨b',off,e,Nat.lt_of_lt_of_le hlt hg.size,(hg.cell_far ⟨b',off+q,none⟩ hlt ?_).trans hc⟩;have h1:=hf5 _ e;have h2:=HGL.out g rfl;have h3:=HBD.out.size;simp only at h1;simp
           omega⟩,(hb5z.setCell (ownV_base hw5) _).drew,fun p g' e e2=>by
          cases e2;have h1:=hf5 _ e;have h2:=HGL.out g rfl;have h3:=HBD.out.size
          omega⟩
      clear hb5z hw5 hll hD hls hb5 hN5 eh hE hm32 hpw d1 d2 hxi hqs hg
      go_region
      go_wp2_with fail;go_roundw
      case rel=>exact⟨i,n5,c5,a5,by omega,by go_num,rfl,HFIN⟩
      case measure=>simp[intOf]
     ·have eh:(H≥0)=False:=by
        rw[←HH.out,if_pos (by omega)];simp
      go_wp2_with fail;go_roundw
      case rel=>
       obtain⟨d1,d2⟩:=B.div_step (x:=x/2^(i+1)) (b:=y) (Q:=x/2^(i+1)/y) (r:=R) hy (by rw[←HRE.out];exact(Nat.div_add_mod' _ _).symm) hRy T hTl
       have hxi:2*(x/2^(i+1))+T=x/2^i:=by
        rw[←HT.out,Nat.pow_succ,←Nat.div_div_eq_div_mul];omega
       rw[hxi,if_neg (by omega)]at d1 d2;refine⟨i,n3,c3,a3,by omega,by go_num,rfl,hd' ⟨L,HOW.out.kept HBD.out,HD.out, ?_, ?_,HB3.out,HF3.out⟩⟩
       ·rw[HV.out,B.quo_keep,d1,Nat.add_zero (2*(x/2^(i+1)/y))]
       ·rw[d2,show 2*R+T=R+R+T by omega]
        exact HN3.out
      case measure=>simp[intOf]
end Code
end Go.Proofs.YtljhklblbafjkaaGreatDoor
namespace Go.Proofs.YtljhklblbafjkaaGreatDoor
open Go.RowKit
namespace B
theorem eu_few{x y j:Nat}(hy:y<18446744073709551616)(h:∀q,q<j→0<(eu q (x,y)).2)(hj:0<(eu j (x,y)).2):j<130:=by
 rcases Nat.lt_or_ge j 130 with h1 | h1
 ·exact h1
 ·exfalso
  rcases eu_small (p:=(x,y)) 128 (fun q hq=>h q (by omega))with e | e
  ·have h2:=h 128 (by omega)
   have e2:(2:Nat)^(128/2)=18446744073709551616:=by decide
   rw[e2]at e;simp only at e;have:1*18446744073709551616≤(eu 128 (x,y)).2*18446744073709551616:=Nat.mul_le_mul_right _ h2;generalize(eu 128 (x,y)).2=z at*;omega
  ·omega
end B
namespace Code
attribute [local go_sem ↓] Go.wp_at_zero Go.wp_at_succ
def EuAt(w wr:World)(x y j:Nat)(aa:Option Addr)(an:Nat)(ba:Option Addr)(bn:Nat):Prop:=NatAt wr aa an (B.eu j (x,y)).1∧NatAt wr ba bn (B.eu j (x,y)).2∧(∀q,q<j→0<(B.eu q (x,y)).2)∧an≤1000∧bn≤1000∧Below w.heap.size w wr
set_option maxHeartbeats 6400000 in
theorem common_any(a b:Option Addr)(na ca nb cb x y:Nat)(w:World)(ha:NatAt w a na x)(hb:NatAt w b nb y)(hy:y<18446744073709551616)(hna:na≤1000)(hnb:nb≤1000):
    Calls Tryz.prog 87 #[.slice a na ca,.slice b nb cb] w (fun e w'=>∃a1 n1 c1,e= .returned (.slice a1 n1 c1)∧NatAt w' a1 n1 (Nat.gcd x y)∧Below w.heap.size w w'):=by
 have HS:Hid (EuAt w w x y 0 a na b nb):=hd' ⟨ha,hb,(fun q h=>by omega),hna,hnb,Below.refl _ _⟩;clear ha hb;go_enter Tryz.func87,Tryz.ntmps87;go_wp2_with fail
 go_loopw [0,1,5] (fun av bv i wr=>∃(j an ac bn bc:Nat) (aa ba:Option Addr),j≤130∧i= .int .i64 (j:Int)∧av= .slice aa an ac∧bv= .slice ba bn bc∧Hid (EuAt w wr x y j aa an ba bn)) (fun _ _ i _=>131-(intOf i).toNat)
 case atStart=>exact⟨0,na,ca,nb,cb,a,b,by omega,rfl,rfl,rfl,HS⟩
 case round=>
  obtain⟨j,an,ac,bn,bc,aa,ba,hj,rfl,rfl,rfl,HI⟩:=hrel;clear HS;obtain⟨h1,h2,h3,h4,h5,h6⟩:=HI.out;have HA:=hd' h1;have HB:=hd' h2;have HQ:=hd' h3;have HBR:=hd' h6;clear h1 h2 h3 h6 HI
  by_cases h0:bn=0
  ·subst h0
   have hz:(B.eu j (x,y)).2=0:=B.dig_nil.1 (List.eq_nil_of_length_eq_zero HB.out.len.symm);have hgc:=B.eu_gcd j (x,y) hz;have HG:Hid (NatAt wr aa an (Nat.gcd x y)):=hd' (by rw[hgc]at HA;exact HA.out);clear hz hgc
   have e1:(((0:Nat):Int)>0)=False:=by simp
   by_cases hc:(j:Int)<64*((an:Int)+((0:Nat):Int))+2
   ·go_wp2_with fail
    go_ret
    first | exact⟨aa,an,ac,rfl,HG.out,HBR.out⟩ | exact⟨aa,an,⟨ac,rfl⟩,HG.out,HBR.out⟩
   ·go_wp2_with fail
    go_ret
    first | exact⟨aa,an,ac,rfl,HG.out,HBR.out⟩ | exact⟨aa,an,⟨ac,rfl⟩,HG.out,HBR.out⟩
  ·have hp:0<(B.eu j (x,y)).2:=by
     rcases Nat.eq_zero_or_pos (B.eu j (x,y)).2 with e | e
     ·exfalso
      have:=HB.out.len;rw[e,B.dig_zero]at this;exact h0 this
     ·exact e
   have hfew:=B.eu_few hy HQ.out hp
   have hap:j=0∨1≤an:=by
    cases j with
    | zero=>exact .inl rfl
    | succ j=>
     right
     have h7:=HA.out.len;have h8:=HQ.out j (by omega);rw[B.eu_succ]at h7;simp only at h7;rcases Nat.eq_zero_or_pos an with e | e
     ·exfalso
      rw[e]at h7;have:=B.dig_nil.1 (List.eq_nil_of_length_eq_zero h7.symm);omega
     ·exact e
   have e1:((j:Int)<64*((an:Int)+(bn:Int))+2)=True:=by simp;omega
   have e2:((bn:Int)>0)=True:=by simp;omega
   have hdv:=divided_any aa ba an ac bn bc (B.eu j (x,y)).1 (B.eu j (x,y)).2 wr HA.out HB.out hp h4 h5;go_wp2_with fail;refine hdv.mono ?_;rintro e z1 ⟨a1,n1,c1,a2,n2,c2,rfl,_,hN2,hbz⟩
   have hn2:n2≤1000:=by
    rw[hN2.len];refine Nat.le_trans (B.dig_length_le (k:=bn) ?_) h5;exact Nat.lt_trans (Nat.mod_lt _ hp) (by rw[HB.out.len];exact B.lt_dig _)
   have HF:Hid (EuAt w z1 x y (j+1) ba bn a2 n2):=hd' ⟨by rw[B.eu_succ];exact HB.out.below hbz (lR' _),by rw[B.eu_succ];exact hN2,(fun q hq=>by
    rcases Nat.lt_or_ge q j with h | h
    ·exact HQ.out q h
    ·obtain rfl:q=j:=by omega
     exact hp),h5,hn2,HBR.out.trans (hbz.mono HBR.out.size)⟩
   clear hdv hN2 hbz;go_wp2_with fail;go_roundw
   case rel=>exact⟨j+1,bn,bc,n2,c2,ba,a2,by omega,by go_num,rfl,rfl,HF⟩
   case measure=>simp[intOf];omega
end Code
end Go.Proofs.YtljhklblbafjkaaGreatDoor
