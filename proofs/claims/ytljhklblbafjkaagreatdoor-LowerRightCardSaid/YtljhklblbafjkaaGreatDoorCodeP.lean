/- Package code: the fields of operations as values: what they are made of, and what of them is asked first. -/
import Derived.Test.YtljhklblbafjkaaGreatDoorBaseQ
import Derived.Deep.RegionWith
import Derived.StillTailTactics
import Derived.Deep.RegionLaw
import Derived.Deep.DrawnRows
import Derived.Deep.MidRow
import Derived.ChangeMaps4
import Derived.MapKept
open Go.Lib renaming hid→hd'
open Nat renaming le_refl→lR'
namespace Go.Proofs.YtljhklblbafjkaaGreatDoor
open Go.RowKit
namespace Code
def P0(b:Nat):Value:=.pointer (some ⟨b,0,none⟩)
def fn0(f:Nat):Value:=.func (.func f) #[] #[]
def atFn(k:Nat):Nat:=if k=0 then 136 else if k=1 then 137 else 181
structure Caps(w:World)(k:Nat)(lo hi:Int)(b4 b5 b6 b7:Nat):Prop where
 c4:w.cell? ⟨b4,0,none⟩=some (fn0 (atFn k))
 c5:w.cell? ⟨b5,0,none⟩=some (.int .i64 lo)
 c6:w.cell? ⟨b6,0,none⟩=some (.int .i64 hi)
 c7:∃s:ByteArray,s.size≤1∧w.cell? ⟨b7,0,none⟩=some (.string s)
 l4:b4<w.heap.size
 l5:b5<w.heap.size
 l6:b6<w.heap.size
 l7:b7<w.heap.size
theorem Caps.below{N:Nat}{w w':World}{k:Nat}{lo hi:Int}{b4 b5 b6 b7:Nat}(h:Caps w k lo hi b4 b5 b6 b7)(hb:Below N w w')(hN:w.heap.size≤N):Caps w' k lo hi b4 b5 b6 b7:=by
 have hl:=hb.size;obtain⟨s,hs,h7⟩:=h.c7
 exact⟨(hb.cell (p:=⟨b4,0,none⟩) (Nat.lt_of_lt_of_le h.l4 hN)).trans h.c4,(hb.cell (p:=⟨b5,0,none⟩) (Nat.lt_of_lt_of_le h.l5 hN)).trans h.c5,(hb.cell (p:=⟨b6,0,none⟩) (Nat.lt_of_lt_of_le h.l6 hN)).trans h.c6,
  ⟨s,hs,(hb.cell (p:=⟨b7,0,none⟩) (Nat.lt_of_lt_of_le h.l7 hN)).trans h7⟩,Nat.lt_of_lt_of_le h.l4 hl,Nat.lt_of_lt_of_le h.l5 hl,Nat.lt_of_lt_of_le h.l6 hl,Nat.lt_of_lt_of_le h.l7 hl⟩
inductive FK where
 | small (k:Nat) (lo hi:Int)
 | number
 | sign
 | skip
 | bytes
def f1(b4 b5 b6:Nat):Value:=.func (.func 163) #[] #[P0 b4,P0 b5,P0 b6]
def f2(b4:Nat):Value:=.func (.func 164) #[] #[P0 b4]
def f3(b4:Nat):Value:=.func (.func 165) #[] #[P0 b4]
def f4(b7 b4:Nat):Value:=.func (.func 167) #[] #[P0 b7,P0 b4]
def f5(b7 b4:Nat):Value:=.func (.func 169) #[] #[P0 b7,P0 b4]
def FieldAt(w:World)(fk:FK)(v0 v1 v2 v3 v4:Value):Prop:=
 match fk with
 | .small k lo hi=>k≤2∧∃b4 b5 b6 b7,Caps w k lo hi b4 b5 b6 b7∧v0=f1 b4 b5 b6∧v1=f2 b4∧v2=f3 b4∧v3=f4 b7 b4∧v4=f5 b7 b4
 | .number=>v0=fn0 172∧v1=fn0 173∧v2=fn0 175∧v3=fn0 177∧v4=fn0 179
 | .sign=>v0=fn0 198∧v1=fn0 173∧v2=fn0 175∧v3=fn0 199∧v4=fn0 200
 | .skip=>∃b4 b5 b6 b7,Caps w 2 0 16384 b4 b5 b6 b7∧v0=f1 b4 b5 b6∧v1=fn0 201∧v2=fn0 202∧v3=f4 b7 b4∧v4=f5 b7 b4
 | .bytes=>∃b4 b5 b6 b7,Caps w 2 1 8 b4 b5 b6 b7∧v0=fn0 197∧v1=f2 b4∧v2=f3 b4∧v3=f4 b7 b4∧v4=f5 b7 b4
theorem FieldAt.below{N:Nat}{w w':World}{fk:FK}{v0 v1 v2 v3 v4:Value}(h:FieldAt w fk v0 v1 v2 v3 v4)(hb:Below N w w')(hN:w.heap.size≤N):FieldAt w' fk v0 v1 v2 v3 v4:=by
 cases fk with
 | small k lo hi=>obtain⟨hk,b4,b5,b6,b7,hc,h⟩:=h;exact⟨hk,b4,b5,b6,b7,hc.below hb hN,h⟩
 | number=>exact h
 | sign=>exact h
 | skip=>obtain⟨b4,b5,b6,b7,hc,h⟩:=h;exact⟨b4,b5,b6,b7,hc.below hb hN,h⟩
 | bytes=>obtain⟨b4,b5,b6,b7,hc,h⟩:=h;exact⟨b4,b5,b6,b7,hc.below hb hN,h⟩
theorem fieldA_any(b off:Nat)(w:World):Calls Tryz.prog 136 #[.pointer (some ⟨b,off,none⟩)] w fun e w'=>e= .returned (.pointer (some ⟨b,off+1,none⟩))∧w'=w:=by
 go_enter Tryz.func136,Tryz.ntmps136
 go_wp2
 go_ret;exact⟨rfl,rfl⟩
theorem fieldB_any(b off:Nat)(w:World):Calls Tryz.prog 137 #[.pointer (some ⟨b,off,none⟩)] w fun e w'=>e= .returned (.pointer (some ⟨b,off+2,none⟩))∧w'=w:=by
 go_enter Tryz.func137,Tryz.ntmps137
 go_wp2
 go_ret;exact⟨rfl,rfl⟩
theorem fieldN_any(b off:Nat)(w:World):Calls Tryz.prog 181 #[.pointer (some ⟨b,off,none⟩)] w fun e w'=>e= .returned (.pointer (some ⟨b,off+3,none⟩))∧w'=w:=by
 go_enter Tryz.func181,Tryz.ntmps181
 go_wp2
 go_ret;exact⟨rfl,rfl⟩
theorem small_any(k:Nat)(lo hi:Int)(s:ByteArray)(w:World)(hk:k≤2)(hs:s.size≤1):
    Calls Tryz.prog 135 #[fn0 (atFn k),.int .i64 lo,.int .i64 hi,.string s] w fun e w'=>∃v0 v1 v2 v3 v4,e= .returned (.agg #[v0,v1,v2,v3,v4])∧FieldAt w' (.small k lo hi) v0 v1 v2 v3 v4∧Below w.heap.size w w':=by
 unfold fn0;go_enter Tryz.func135,Tryz.ntmps135
 go_wp2
 refine bodyPost_ret (v:=.agg #[f1 w.heap.size (w.heap.size+1) (w.heap.size+1+1),f2 w.heap.size,f3 w.heap.size,f4 (w.heap.size+1+1+1) w.heap.size,f5 (w.heap.size+1+1+1) w.heap.size])
  (by simp[results,Tryz.results135,go_sem,f1,f2,f3,f4,f5,P0]) rfl ⟨_,_,_,_,_,rfl,⟨hk,_,_,_,_,⟨?_, ?_, ?_,⟨s,hs, ?_⟩, ?_, ?_, ?_, ?_⟩,rfl,rfl,rfl,rfl,rfl⟩, ?_⟩
 ·go_simp;rfl
 ·go_simp
 ·go_simp
 ·go_simp
 ·simp;omega
 ·simp
 ·simp
 ·simp
 ·exact(((((Below.refl _ _).alloc (lR' _) _).alloc (by simp) _).alloc (by simp;omega) _).alloc (by simp;omega) _).alloc (by simp;omega) _
def get(k:Nat)(x:B.Ins):Int:=if k=0 then x.a else if k=1 then x.b else x.n
def valI(x:B.Ins):Value:=.agg #[.int .i64 x.op,.int .i64 x.a,.int .i64 x.b,.int .i64 x.n,.int .u64 x.imm]
def inB(lo v hi:Int):Bool:=decide (lo≤v)&&decide (v≤hi)
set_option maxHeartbeats 1000000 in
theorem ok_small(k:Nat)(hk:k≤2)(lo hi:Int)(b4 b5 b6 b7:Nat)(x:B.Ins)(w:World)(hc:Caps w k lo hi b4 b5 b6 b7):
    Calls Tryz.prog 163 #[valI x,P0 b4,P0 b5,P0 b6] w fun e w'=>e= .returned (.bool (inB lo (get k x) hi))∧Below w.heap.size w w':=by
 obtain⟨c4,c5,c6,c7,l4,l5,l6,l7⟩:=hc;clear c7 l7;unfold valI P0;rcases(show k=0∨k=1∨k=2 by omega)with rfl | rfl | rfl
 ·have g:get 0 x=x.a:=rfl
  rw[g];clear g;have e:fn0 (atFn 0)= .func (.func 136) #[] #[]:=rfl;rw[e]at c4;clear e
  by_cases h1:lo≤x.a
  ·go_enter Tryz.func163,Tryz.ntmps163
   go_wp2_with fail
   go_quiet ((go_at_call 136;exact Calls.quiet_of_same (fieldA_any _ _ _)))
   go_wp2
   go_ret;exact⟨ret_bool (by unfold inB;simp[h1]),belowN ((Below.refl _ _).alloc (lR' _) _) _⟩
  ·have hd:decide (lo≤x.a)=false:=by simpa using h1
   go_enter Tryz.func163,Tryz.ntmps163;go_wp2_with fail
   go_quiet ((go_at_call 136;exact Calls.quiet_of_same (fieldA_any _ _ _)))
   go_wp2
   go_ret;exact⟨ret_bool (by unfold inB;rw[hd];rfl),belowN ((Below.refl _ _).alloc (lR' _) _) _⟩
 ·have g:get 1 x=x.b:=rfl
  rw[g];clear g;have e:fn0 (atFn 1)= .func (.func 137) #[] #[]:=rfl;rw[e]at c4;clear e
  by_cases h1:lo≤x.b
  ·go_enter Tryz.func163,Tryz.ntmps163
   go_wp2_with fail
   go_quiet ((go_at_call 137;exact Calls.quiet_of_same (fieldB_any _ _ _)))
   go_wp2
   go_ret;exact⟨ret_bool (by unfold inB;simp[h1]),belowN ((Below.refl _ _).alloc (lR' _) _) _⟩
  ·have hd:decide (lo≤x.b)=false:=by simpa using h1
   go_enter Tryz.func163,Tryz.ntmps163;go_wp2_with fail
   go_quiet ((go_at_call 137;exact Calls.quiet_of_same (fieldB_any _ _ _)))
   go_wp2
   go_ret;exact⟨ret_bool (by unfold inB;rw[hd];rfl),belowN ((Below.refl _ _).alloc (lR' _) _) _⟩
 ·have g:get 2 x=x.n:=rfl
  rw[g];clear g;have e:fn0 (atFn 2)= .func (.func 181) #[] #[]:=rfl;rw[e]at c4;clear e
  by_cases h1:lo≤x.n
  ·go_enter Tryz.func163,Tryz.ntmps163
   go_wp2_with fail
   go_quiet ((go_at_call 181;exact Calls.quiet_of_same (fieldN_any _ _ _)))
   go_wp2
   go_ret;exact⟨ret_bool (by unfold inB;simp[h1]),belowN ((Below.refl _ _).alloc (lR' _) _) _⟩
  ·have hd:decide (lo≤x.n)=false:=by simpa using h1
   go_enter Tryz.func163,Tryz.ntmps163;go_wp2_with fail
   go_quiet ((go_at_call 181;exact Calls.quiet_of_same (fieldN_any _ _ _)))
   go_wp2
   go_ret;exact⟨ret_bool (by unfold inB;rw[hd];rfl),belowN ((Below.refl _ _).alloc (lR' _) _) _⟩
theorem ok_number(x:B.Ins)(w:World):Calls Tryz.prog 172 #[valI x] w fun e w'=>e= .returned (.bool true)∧Below w.heap.size w w':=by
 unfold valI;go_enter Tryz.func172,Tryz.ntmps172
 go_wp2
 go_ret;exact⟨rfl,(Below.refl _ _).alloc (lR' _) _⟩
theorem ok_sign(x:B.Ins)(w:World):Calls Tryz.prog 198 #[valI x] w fun e w'=>e= .returned (.bool (decide (x.imm≤1)))∧Below w.heap.size w w':=by
 unfold valI;go_enter Tryz.func198,Tryz.ntmps198
 go_wp2
 go_ret;exact⟨rfl,(Below.refl _ _).alloc (lR' _) _⟩
def bytesOk(x:B.Ins):Bool:=decide (1≤x.n)&&decide (x.n≤8)&&decide (x.b+x.n≤8)
theorem ok_bytes(x:B.Ins)(w:World)(hb:0≤x.b∧x.b≤7):Calls Tryz.prog 197 #[valI x] w fun e w'=>e= .returned (.bool (bytesOk x))∧Below w.heap.size w w':=by
 unfold valI;obtain⟨hb0,hb7⟩:=hb
 by_cases h1:1≤x.n
 ·by_cases h2:x.n≤8
  ·go_enter Tryz.func197,Tryz.ntmps197
   go_wp2
   go_ret;exact⟨ret_bool (by unfold bytesOk;simp[h1,h2]),(Below.refl _ _).alloc (lR' _) _⟩
  ·have hd:decide (x.n≤8)=false:=by simpa using h2
   go_enter Tryz.func197,Tryz.ntmps197
   go_wp2
   go_ret;exact⟨ret_bool (by unfold bytesOk;rw[hd];simp),(Below.refl _ _).alloc (lR' _) _⟩
 ·have hd:decide (1≤x.n)=false:=by simpa using h1
  go_enter Tryz.func197,Tryz.ntmps197
  go_wp2
  go_ret;exact⟨ret_bool (by unfold bytesOk;rw[hd];rfl),(Below.refl _ _).alloc (lR' _) _⟩
theorem number_any(w:World):Calls Tryz.prog 138 #[] w fun e w'=>∃v0 v1 v2 v3 v4,e= .returned (.agg #[v0,v1,v2,v3,v4])∧FieldAt w' .number v0 v1 v2 v3 v4∧Below w.heap.size w w':=by
 go_enter Tryz.func138,Tryz.ntmps138
 go_wp2
 refine bodyPost_ret (v:=.agg #[fn0 172,fn0 173,fn0 175,fn0 177,fn0 179])
  (by simp[results,Tryz.results138,go_sem,fn0]) rfl ⟨_,_,_,_,_,rfl,⟨rfl,rfl,rfl,rfl,rfl⟩, ?_⟩
 exact(Below.refl _ _).alloc (lR' _) _
end Code
end Go.Proofs.YtljhklblbafjkaaGreatDoor
namespace Go.Proofs.YtljhklblbafjkaaGreatDoor
open Go.RowKit
namespace Code
attribute [local go_sem ↓] Go.wp_at_zero Go.wp_at_succ
def sevens(v:Nat):List Nat:=if v≤127 then [v]else(v%128+128)::sevens (v/128)
termination_by v
def byteV(b:Nat):Value:=.int .u8 b
structure WrAt(w:World)(base Bw:Nat)(bs:List Nat)(x:B.Ins):Prop where
 ex:∃ao n cap,w.heap[Bw]? =some (.cells #[.slice ao n cap,.int .i64 x.op,.int .i64 x.a,.int .i64 x.b,.int .i64 x.n,.int .u64 x.imm] 235 (0,0))∧
  n=bs.length∧w.ownsRow base 5 1 (.slice ao n cap) n (bs.map byteV)
 lo:base≤Bw
theorem infoU8:(Tryz.prog.info? 5).map (fun i=>(i.zero,i.size,i.bytes))=some (some (.int .u8 0),1,1):=by kernel_rfl
theorem wr_push{W w1:World}{base Bw:Nat}{bs:List Nat}{x:B.Ins}{ao ao':Option Addr}{n cap cap':Nat}{c:Nat}
    (hblk:W.heap[Bw]? =some (.cells #[.slice ao n cap,.int .i64 x.op,.int .i64 x.a,.int .i64 x.b,.int .i64 x.n,.int .u64 x.imm] 235 (0,0)))
    (hn:n=bs.length) (hown:W.ownsRow base 5 1 (.slice ao n cap) n (bs.map byteV)) (hlo:base≤Bw)
    (hown1:w1.ownsRow base 5 1 (.slice ao' (n+1) cap') (n+1) (bs.map byteV++[byteV c])) (hg:W.grownBy w1 (Value.ownBlock (.slice ao n cap))):
    WrAt (w1.setCell ⟨Bw,0,none⟩ (.slice ao' (n+1) cap')) base Bw (bs++[c]) x:=by
 have hlt:=lt_of_block hblk;have hne:=own_ne hown hblk (by decide);have hb1:w1.heap[Bw]? =W.heap[Bw]? :=hg.block Bw hlt (fun e=>hne e.symm);rw[hblk]at hb1;have hne1:=own_ne hown1 hb1 (by decide);refine⟨⟨ao',n+1,cap', ?_,by simp[hn], ?_⟩,hlo⟩
 ·rw[blk_setCell hb1];rfl
 ·rw[List.map_append]
  exact ownsRow_setCell_other hown1 (by simpa using hne1) _
theorem wr_facts{w1 W:World}{base Bw:Nat}{bs:List Nat}{x:B.Ins}{ao:Option Addr}{n cap:Nat}
    (hblk:W.heap[Bw]? =some (.cells #[.slice ao n cap,.int .i64 x.op,.int .i64 x.a,.int .i64 x.b,.int .i64 x.n,.int .u64 x.imm] 235 (0,0)))
    (hown:W.ownsRow base 5 1 (.slice ao n cap) n (bs.map byteV)) (hg:W.grownBy w1 (Value.ownBlock (.slice ao n cap))):
    w1.cell? ⟨Bw,0,none⟩=some (.slice ao n cap)∧w1.frozen? ⟨Bw,0,none⟩=false:=by
 have hlt:=lt_of_block hblk;have hne:=own_ne hown hblk (by decide);have hb1:w1.heap[Bw]? =W.heap[Bw]? :=hg.block Bw hlt (fun e=>hne e.symm);rw[hblk]at hb1;exact⟨by rw[cell_of_row _ _ _ _ _ _ hb1];rfl,frozen_blk hb1⟩
theorem blk_alloc{w:World}{b:Nat}{o ob:Obj}(h:w.heap[b]? =some ob):(w.alloc o).heap[b]? =some ob:=(Below.heap_alloc w o b (lt_of_block h)).trans h
theorem blk_drew{w:World}{b:Nat}{ob:Obj}(h:w.heap[b]? =some ob):w.drew.heap[b]? =some ob:=h
theorem sevens_small{m:Nat}(h:m≤127):sevens m=[m]:=by rw[sevens,if_pos h]
theorem sevens_more{m:Nat}(h:¬m≤127):sevens m=(m%128+128)::sevens (m/128):=by rw[sevens,if_neg h]
theorem sevens_len:∀(d m:Nat),m<128^d→0<d→(sevens m).length≤d:=by
 intro d
 induction d with
 | zero=>intro m _ h;omega
 | succ d ih=>
  intro m hm _
  by_cases h:m≤127
  ·rw[sevens_small h];simp
  ·rw[sevens_more h]
   have hd:0<d:=by
    apply Nat.pos_of_ne_zero;intro h0;subst h0;omega
   have:=ih (m/128) (Nat.div_lt_of_lt_mul (by rw[Nat.pow_succ]at hm;omega)) hd;simp;omega
set_option maxRecDepth 100000 in
theorem or128_small:∀k,k<256→bits BinOp.or .u8 (k:Nat) 128=((k%128+128:Nat):Int):=by decide
theorem or128(m:Nat):bits BinOp.or .u8 ((m:Int)%256) 128=((m%128+128:Nat):Int):=by
 have:=or128_small (m%256) (by omega);rw[show((m%256:Nat):Int)=(m:Int)%256 by omega,show m%256%128=m%128 by omega]at this;exact this
set_option maxRecDepth 100000 in
set_option maxHeartbeats 3200000 in
theorem wr_sevens(Bw base:Nat)(bs:List Nat)(x:B.Ins)(v:Nat)(w:World)(hv:v<18446744073709551616)(hlen:bs.length≤100)(hw:WrAt w base Bw bs x)(hbase:base≤w.heap.size):
    Calls Tryz.prog 174 #[P0 Bw,.int .u64 v] w fun e w'=>e= .returned (.tuple #[])∧WrAt w' base Bw (bs++sevens v) x∧Below base w w':=by
 have hsl:=hd' (sevens_len 10 v (by omega) (by omega));unfold P0;go_enter Tryz.func174,Tryz.ntmps174;go_wp2_with fail
 go_loopw [1] (fun v' wr=>∃(m:Nat) (bs':List Nat),v'= .int .u64 m∧m<18446744073709551616∧bs'++sevens m=bs++sevens v∧WrAt wr base Bw bs' x∧Below base w wr)
  (fun v' _=>(intOf v').toNat)
 case atStart=>exact⟨v,bs,rfl,hv,rfl,hw,Below.refl _ _⟩
 case round=>
  obtain⟨m,bs',rfl,hm,he,hwr,hb⟩:=hrel;obtain⟨⟨ao,n,cap,hblk,hn,hown⟩,hlo⟩:=hwr
  have hnl:n≤110:=by
   have h1:=congrArg List.length he;have h2:=hsl.out;simp only[List.length_append]at h1;omega
  have hsz:=hb.size;have HE:=hd' he;have HB:=hd' hb;have HN:=hd' hn;have HO:=hd' hown;have HK:=hd' hblk;have hc0:=cell_of_row wr Bw 0 _ _ _ hblk;simp only[List.getElem?_toArray,List.getElem?_cons_zero]at hc0;have hbw:=lt_of_block hblk;clear he hb hn hown hblk hw
  by_cases h127:m≤127
  ·go_wp2_with (at_builtin;refine app_gen Tryz.underlying28 infoU8 rfl (by decide) rfl _ _ rfl base rfl HO.out rfl rfl (by simp[Value.oneCell']) (by omega) (by omega) (by omega) ?_;intro ao' cap' w1 hown1 hg1 hb1 hs1;have hcf:=wr_facts (blk_alloc HK.out) (HO.out.alloc _) hg1;have hc1:=hcf.1;have hf1:=hcf.2;clear hcf)
   go_end0
   refine⟨rfl, ?_,(HB.out.trans hb1).setCell hlo _⟩;have:=wr_push (blk_alloc HK.out) HN.out (HO.out.alloc _) hlo hown1 hg1;rw[←HE.out,sevens_small h127];exact this
  ·go_wp2_with (at_builtin;refine app_gen Tryz.underlying28 infoU8 rfl (by decide) rfl _ _ rfl base rfl HO.out rfl rfl (by simp[Value.oneCell']) (by omega) (by omega) (by omega) ?_;intro ao' cap' w1 hown1 hg1 hb1 hs1;have hcf:=wr_facts (blk_alloc HK.out) (HO.out.alloc _) hg1;have hc1:=hcf.1;have hf1:=hcf.2;clear hcf)
   go_roundw
   case rel=>
    rw[or128]at hown1;have hw2:=wr_push (blk_alloc HK.out) HN.out (HO.out.alloc _) hlo hown1 hg1;refine⟨m/128,bs'++[m%128+128],by go_num,by omega, ?_,hw2,(HB.out.trans hb1).setCell hlo _⟩;rw[←HE.out,sevens_more h127];simp
   case measure=>simp[intOf];omega
def byteOf(v:Int):Nat:=(v%256).toNat
theorem wrapByte(v:Int):IntKind.u8.wrap v=((byteOf v:Nat):Int):=by
 have:IntKind.u8.wrap v=v%256:=by simp[IntKind.wrap,IntKind.signed,IntKind.bits]
 rw[this,byteOf];omega
def enc(fk:FK)(x:B.Ins):List Nat:=
 match fk with
 | .small k _ _=>[byteOf (get k x)]
 | .number=>sevens x.imm.toNat
 | .sign=>sevens x.imm.toNat
 | .skip=>sevens (x.n%18446744073709551616).toNat
 | .bytes=>[byteOf x.n]
set_option maxRecDepth 100000 in
set_option maxHeartbeats 3200000 in
theorem write_small(k:Nat)(hk:k≤2)(b4 Bw base:Nat)(bs:List Nat)(x:B.Ins)(w:World)(h4:w.cell? ⟨b4,0,none⟩=some (fn0 (atFn k)))(hlen:bs.length≤100)(hw:WrAt w base Bw bs x)(hbase:base≤w.heap.size):
    Calls Tryz.prog 164 #[P0 Bw,P0 b4] w fun e w'=>e= .returned (.tuple #[])∧WrAt w' base Bw (bs++[byteOf (get k x)]) x∧Below base w w':=by
 obtain⟨⟨ao,n,cap,hblk,hn,hown⟩,hlo⟩:=hw;have hc0:=cell_of_row w Bw 0 _ _ _ hblk;have hc1:=cell_of_row w Bw 1 _ _ _ hblk;have hc2:=cell_of_row w Bw 2 _ _ _ hblk;have hc3:=cell_of_row w Bw 3 _ _ _ hblk;have hc4:=cell_of_row w Bw 4 _ _ _ hblk;simp only[List.getElem?_toArray,List.getElem?_cons_zero,List.getElem?_cons_succ]at hc0 hc1 hc2 hc3 hc4;have hbw:=lt_of_block hblk;have HN:=hd' hn;have HO:=hd' hown;have HK:=hd' hblk
 have hnl:n≤100:=by omega
 clear hn hown hblk;unfold P0;rcases(show k=0∨k=1∨k=2 by omega)with rfl | rfl | rfl
 ·have g:get 0 x=x.a:=rfl
  rw[g];clear g;have e:fn0 (atFn 0)= .func (.func 136) #[] #[]:=rfl;rw[e]at h4;clear e;go_enter Tryz.func164,Tryz.ntmps164
  go_region_law (first
   | (refine step_app Tryz.underlying28 infoU8 rfl (by decide) rfl _ _ (by rfl) base (by rfl) (HO.out.alloc _).drew (by rfl) (heap_alloc_new w _) rfl rfl (by simp[Value.oneCell']) (by omega) (by omega) (by simp;omega) ?_;intro ao' cap' w1 hown1 hg1 hb1 hs1;have hf1:=(wr_facts (x:=x) (blk_drew (blk_alloc HK.out)) (HO.out.alloc _).drew hg1).2;have hc1:=(wr_facts (x:=x) (blk_drew (blk_alloc HK.out)) (HO.out.alloc _).drew hg1).1)
   | (go_simp;go_at_call 136;refine(fieldA_any _ _ _).mono ?_;rintro e w1 ⟨rfl,rfl⟩))
  all_goals go_end0
  all_goals refine⟨rfl, ?_,((((Below.refl base w).alloc hbase _).drew).trans hb1).setCell hlo _⟩
  all_goals rw[wrapByte]at hown1
  all_goals exact wr_push (x:=x) (blk_drew (blk_alloc HK.out)) HN.out (HO.out.alloc _).drew hlo hown1 hg1
 ·have g:get 1 x=x.b:=rfl
  rw[g];clear g;have e:fn0 (atFn 1)= .func (.func 137) #[] #[]:=rfl;rw[e]at h4;clear e;go_enter Tryz.func164,Tryz.ntmps164
  go_region_law (first
   | (refine step_app Tryz.underlying28 infoU8 rfl (by decide) rfl _ _ (by rfl) base (by rfl) (HO.out.alloc _).drew (by rfl) (heap_alloc_new w _) rfl rfl (by simp[Value.oneCell']) (by omega) (by omega) (by simp;omega) ?_;intro ao' cap' w1 hown1 hg1 hb1 hs1;have hf1:=(wr_facts (x:=x) (blk_drew (blk_alloc HK.out)) (HO.out.alloc _).drew hg1).2;have hc1:=(wr_facts (x:=x) (blk_drew (blk_alloc HK.out)) (HO.out.alloc _).drew hg1).1)
   | (go_simp;go_at_call 137;refine(fieldB_any _ _ _).mono ?_;rintro e w1 ⟨rfl,rfl⟩))
  all_goals go_end0
  all_goals refine⟨rfl, ?_,((((Below.refl base w).alloc hbase _).drew).trans hb1).setCell hlo _⟩
  all_goals rw[wrapByte]at hown1
  all_goals exact wr_push (x:=x) (blk_drew (blk_alloc HK.out)) HN.out (HO.out.alloc _).drew hlo hown1 hg1
 ·have g:get 2 x=x.n:=rfl
  rw[g];clear g;have e:fn0 (atFn 2)= .func (.func 181) #[] #[]:=rfl;rw[e]at h4;clear e;go_enter Tryz.func164,Tryz.ntmps164
  go_region_law (first
   | (refine step_app Tryz.underlying28 infoU8 rfl (by decide) rfl _ _ (by rfl) base (by rfl) (HO.out.alloc _).drew (by rfl) (heap_alloc_new w _) rfl rfl (by simp[Value.oneCell']) (by omega) (by omega) (by simp;omega) ?_;intro ao' cap' w1 hown1 hg1 hb1 hs1;have hf1:=(wr_facts (x:=x) (blk_drew (blk_alloc HK.out)) (HO.out.alloc _).drew hg1).2;have hc1:=(wr_facts (x:=x) (blk_drew (blk_alloc HK.out)) (HO.out.alloc _).drew hg1).1)
   | (go_simp;go_at_call 181;refine(fieldN_any _ _ _).mono ?_;rintro e w1 ⟨rfl,rfl⟩))
  all_goals go_end0
  all_goals refine⟨rfl, ?_,((((Below.refl base w).alloc hbase _).drew).trans hb1).setCell hlo _⟩
  all_goals rw[wrapByte]at hown1
  all_goals exact wr_push (x:=x) (blk_drew (blk_alloc HK.out)) HN.out (HO.out.alloc _).drew hlo hown1 hg1
set_option maxHeartbeats 1000000 in
theorem write_number(Bw base:Nat)(bs:List Nat)(x:B.Ins)(w:World)(hx:B.InU64 x.imm)(hlen:bs.length≤100)(hw:WrAt w base Bw bs x)(hbase:base≤w.heap.size):
    Calls Tryz.prog 173 #[P0 Bw] w fun e w'=>e= .returned (.tuple #[])∧WrAt w' base Bw (bs++sevens x.imm.toNat) x∧Below base w w':=by
 have e:x.imm=((x.imm.toNat:Nat):Int):=by unfold B.InU64 at hx;omega
 have hlt:x.imm.toNat<18446744073709551616:=by unfold B.InU64 at hx;omega
 obtain⟨⟨ao,n,cap,hblk,hn,hown⟩,hlo⟩:=hw;have hc3:=cell_of_row w Bw 4 _ _ _ hblk;have hc4:=cell_of_row w Bw 5 _ _ _ hblk;simp only[List.getElem?_toArray,List.getElem?_cons_zero,List.getElem?_cons_succ]at hc3 hc4;have hbw:=lt_of_block hblk;have HW:Hid (WrAt w base Bw bs x):=hd' ⟨⟨ao,n,cap,hblk,hn,hown⟩,hlo⟩;clear hn hown hblk;unfold P0;rw[e]at hc4;generalize hv:x.imm.toNat=v at*;go_enter Tryz.func173,Tryz.ntmps173;go_wp2_with (go_at_call 174;refine(wr_sevens _ base bs x _ _ hlt hlen HW.out hbase).mono ?_;rintro e w1 ⟨rfl,hb⟩)
 go_end0
 exact⟨rfl,hb⟩
set_option maxHeartbeats 1000000 in
theorem write_skip(Bw base:Nat)(bs:List Nat)(x:B.Ins)(w:World)(hlen:bs.length≤100)(hw:WrAt w base Bw bs x)(hbase:base≤w.heap.size):
    Calls Tryz.prog 201 #[P0 Bw] w fun e w'=>e= .returned (.tuple #[])∧WrAt w' base Bw (bs++sevens (x.n%18446744073709551616).toNat) x∧Below base w w':=by
 have e:IntKind.u64.wrap x.n=(((x.n%18446744073709551616).toNat:Nat):Int):=by
  have:IntKind.u64.wrap x.n=x.n%18446744073709551616:=by simp[IntKind.wrap,IntKind.signed,IntKind.bits]
  rw[this];omega
 have hlt:(x.n%18446744073709551616).toNat<18446744073709551616:=by omega
 obtain⟨⟨ao,n,cap,hblk,hn,hown⟩,hlo⟩:=hw;have hc3:=cell_of_row w Bw 4 _ _ _ hblk;have hc4:=cell_of_row w Bw 5 _ _ _ hblk;simp only[List.getElem?_toArray,List.getElem?_cons_zero,List.getElem?_cons_succ]at hc3 hc4;have hbw:=lt_of_block hblk;have HW:Hid (WrAt w base Bw bs x):=hd' ⟨⟨ao,n,cap,hblk,hn,hown⟩,hlo⟩;clear hn hown hblk;unfold P0;generalize hv:(x.n%18446744073709551616).toNat=v at*;go_enter Tryz.func201,Tryz.ntmps201;go_wp2_with (go_at_call 174;refine(wr_sevens _ base bs x _ _ hlt hlen HW.out hbase).mono ?_;rintro e w1 ⟨rfl,hb⟩)
 go_end0
 exact⟨rfl,hb⟩
end Code
end Go.Proofs.YtljhklblbafjkaaGreatDoor
namespace Go.Proofs.YtljhklblbafjkaaGreatDoor
open Go.RowKit
namespace Code
def MapIs(w:World)(b:Nat)(l:List (Int×Value)):Prop:=
 ∃es clock,w.heap[b]? =some (.map es clock)∧es.toList.map (fun e=>(e.key,e.val))=l.map (fun p=>(Value.int .i64 p.1,p.2))
theorem findNow_none(k:Int):∀(es:List MapEntry) (l:List (Int×Value)) (i:Nat),es.map (fun e=>(e.key,e.val))=l.map (fun p=>(Value.int .i64 p.1,p.2))→(∀p∈l,p.1≠k)→
    Instr.findNow (.int .i64) (.int .i64 k) es i=some none:=by
 intro es
 induction es with
 | nil=>intro l i _ _;rfl
 | cons e es ih=>
  intro l i h hk
  cases l with
  | nil=>simp at h
  | cons p l=>
   simp only[List.map_cons,List.cons.injEq,Prod.mk.injEq]at h;obtain⟨⟨h1,h2⟩,h3⟩:=h
   have hne:(k==p.1)=false:=by
    have:=hk p (by simp);simp;omega
   simp only[Instr.findNow,h1,Instr.sameNow,if_true,hne];exact ih l (i+1) h3 (fun q hq=>hk q (by simp[hq]))
theorem findNow_some(k:Int)(v:Value):∀(es:List MapEntry) (l:List (Int×Value)) (i:Nat),es.map (fun e=>(e.key,e.val))=l.map (fun p=>(Value.int .i64 p.1,p.2))→
    l.find? (fun p=>p.1==k)=some (k,v)→∃j,Instr.findNow (.int .i64) (.int .i64 k) es i=some (some (j,v)):=by
 intro es
 induction es with
 | nil=>intro l i h hf;cases l<;>simp at h hf
 | cons e es ih=>
  intro l i h hf
  cases l with
  | nil=>simp at h
  | cons p l=>
   simp only[List.map_cons,List.cons.injEq,Prod.mk.injEq]at h;obtain⟨⟨h1,h2⟩,h3⟩:=h
   by_cases hp:p.1=k
   ·rw[List.find?_cons_of_pos (by simp[hp])]at hf
    simp only[Option.some.injEq]at hf;subst hf;refine⟨i, ?_⟩;simp[Instr.findNow,h1,Instr.sameNow,h2]
   ·rw[List.find?_cons_of_neg (by simp[hp])]at hf
    have hne:(k==p.1)=false:=by simp;omega
    simp only[Instr.findNow,h1,Instr.sameNow,if_true,hne];exact ih l (i+1) h3 hf
theorem run_insert{w:World}{b:Nat}{l:List (Int×Value)}(h:MapIs w b l)(k:Int)(v:Value)(hk:∀p∈l,p.1≠k):
    ∃w',(Instr.mapUpdate 182 (.map (some b)) (.int .i64 k) v).run Tryz.prog w= .ok () w'∧MapIs w' b (l++[(k,v)])∧w.grownBy w' (some b):=by
 obtain⟨es,clock,hb,he⟩:=h;have hd:Tryz.prog.underlying 3=some (.int .i64):=Tryz.underlying3;have hf:=findNow_none k es.toList l 0 he hk;refine⟨ChangeMaps.setBlock w b (.map (es.push { key:=.int .i64 k,val:=v,born:=clock}) (clock+1)), ?_,⟨_,_,(MapKept.heap_set hb).1, ?_⟩,⟨rfl,rfl,rfl,by simp[ChangeMaps.setBlock],fun i _ hi=>(MapKept.heap_set hb).2 i (fun e=>hi (by rw[e]))⟩⟩
 ·simp[Instr.mapUpdate,run_underlying Tryz.underlying182,MapKept.run_getObj_map hb,MapKept.run_checkKey hd (k:=.int .i64 k) (by simp[MapKept.IsKey]),MapKept.run_findKey hd hf,MapKept.run_setObj_map _ hb,Result.andThen,ChangeMaps.setBlock]
 ·simp[he]
theorem run_lookup{w:World}{b:Nat}{l:List (Int×Value)}(h:MapIs w b l)(k:Int)(v:Value)(hk:l.find? (fun p=>p.1==k)=some (k,v)):
    (Instr.lookup 182 (.map (some b)) (.int .i64 k) true).run Tryz.prog w= .ok (.tuple #[v,.bool true]) w:=by
 obtain⟨es,clock,hb,he⟩:=h;have hd:Tryz.prog.underlying 3=some (.int .i64):=Tryz.underlying3;obtain⟨j,hf⟩:=findNow_some k v es.toList l 0 he hk;simp[Instr.lookup,run_underlying Tryz.underlying182,MapKept.run_getObj_map hb,MapKept.run_checkKey hd (k:=.int .i64 k) (by simp[MapKept.IsKey]),MapKept.run_findKey hd hf,Result.andThen]
theorem run_missing{w:World}{b:Nat}{l:List (Int×Value)}(h:MapIs w b l)(k:Int)(hk:∀p∈l,p.1≠k):
    ∃v,(Instr.lookup 182 (.map (some b)) (.int .i64 k) true).run Tryz.prog w= .ok (.tuple #[v,.bool false]) w:=by
 obtain⟨es,clock,hb,he⟩:=h;have hd:Tryz.prog.underlying 3=some (.int .i64):=Tryz.underlying3;have hf:=findNow_none k es.toList l 0 he hk;refine⟨.nilFunc, ?_⟩;simp[Instr.lookup,run_underlying Tryz.underlying182,MapKept.run_getObj_map hb,MapKept.run_checkKey hd (k:=.int .i64 k) (by simp[MapKept.IsKey]),MapKept.run_findKey hd hf,Result.andThen]
def overlay(C:Array Value):Nat→List Value→Array Value
 | _,[]=>C
 | o,v::r=>overlay (C.setIfInBounds o v) (o+1) r
theorem setCells_new(w:World)(t:TypeId):∀(vs:List Value) (o:Nat) (C:Array Value),(w.alloc (.cells C t)).setCells w.heap.size o vs=w.alloc (.cells (overlay C o vs) t):=by
 intro vs
 induction vs with
 | nil=>intro o C;rfl
 | cons v r ih=>
  intro o C
  show((w.alloc (.cells C t)).setCell ⟨w.heap.size,o,none⟩ v).setCells w.heap.size (o+1) r=_
  rw[World.setCell_alloc_at _ _ _ _ _ rfl,ih];rfl
theorem overlay_all:∀(vs:List Value) (o:Nat) (C:Array Value),o+vs.length=C.size→(overlay C o vs).toList=C.toList.take o++vs:=by
 intro vs
 induction vs with
 | nil=>
  intro o C h;simp only[overlay,List.append_nil];rw[List.take_of_length_le];simp at h;simp[h]
 | cons v r ih=>
  intro o C h;simp only[List.length_cons]at h
  show(overlay (C.setIfInBounds o v) (o+1) r).toList=_
  rw[ih (o+1) _ (by simp;omega)]
  have:(C.setIfInBounds o v).toList.take (o+1)=C.toList.take o++[v]:=by
   rw[Array.toList_setIfInBounds,List.take_add_one]
   have h1:o<C.toList.length:=by simp;omega
   rw[List.take_set_of_le (lR' o),List.getElem?_set_self h1];rfl
  rw[this];simp
theorem overlay_self(C T:Array Value)(h:C.size=T.size):overlay C 0 T.toList=T:=by
 have:=overlay_all T.toList 0 C (by simp[h]);simp at this;exact this
theorem step_store_new{ops:Array Oper}{rest:List Oper}{o:Oper}{a:Act}{w:World}{Q:Exit→Act→World→Prop}(hgd:o.guard=none)(ty:TypeId)(x y:Operand)(ho:o.op= .store ty x y)
    (C T:Array Value) (hx:a.eval x= .pointer (some ⟨w.heap.size,0,none⟩)) (hy:a.eval y= .agg T) (hC:C.size=T.size) (hi:(Tryz.prog.info? ty).map (·.size)=some T.size) (h1:T.all (·.oneCell')=true)
    (h:wpList Tryz.prog ops Q rest (a.put o.dst undef) (w.alloc (.cells T ty))):wpList Tryz.prog ops Q (o::rest) a (w.alloc (.cells C ty)):=by
 refine wpList_store_mid hgd ty x y ho w.heap.size 0 T hx hy ?_ hi h1 ?_
 ·intro j hj
  have hb:=heap_alloc_new w (.cells C ty);constructor
  ·rw[cell_of_row _ _ _ _ _ _ hb]
   simp;omega
  ·exact frozen_blk hb
 ·rw[setCells_new,overlay_self C T hC]
  exact h
end Code
end Go.Proofs.YtljhklblbafjkaaGreatDoor
