/- Package code: fields are read again: the reader's steps. -/
import Derived.Test.YtljhklblbafjkaaGreatDoorCodeP
import Derived.Test.YtljhklblbafjkaaGreatDoorShelf
import Derived.BigQuiet
import Derived.IntWalk
import Derived.Laws.BitsAllLaws
import Derived.Laws.MathBits
import Derived.Deep.RegionHeld
import Derived.Maps.Own
import Derived.Laws.EntriesVeiled
open Go.Lib renaming hid→hd'
open Nat renaming le_refl→lR'
namespace Go.Proofs.YtljhklblbafjkaaGreatDoor
open Go.RowKit
namespace Code
attribute [local go_sem ↓] Go.wp_at_zero Go.wp_at_succ
def rdCells(ao:Option Addr)(n cap:Nat)(at_:Nat)(x:B.Ins):Array Value:=
 #[.slice ao n cap,.int .i64 at_,.int .i64 x.op,.int .i64 x.a,.int .i64 x.b,.int .i64 x.n,.int .u64 x.imm,.nilIface]
structure RdAt(w:World)(base Rb:Nat)(bytes:List Nat)(at_:Nat)(x:B.Ins):Prop where
 ex:∃ao n cap,w.heap[Rb]? =some (.cells (rdCells ao n cap at_ x) 238 (0,0))∧
  n=bytes.length∧w.ownsRow base 5 1 (.slice ao n cap) n (bytes.map byteV)
 lo:base≤Rb
theorem own_cell{w:World}{base:Nat}{bs:List Nat}{ao:Option Addr}{n cap i c:Nat}(h:w.ownsRow base 5 1 (.slice ao n cap) n (bs.map byteV))(hi:bs[i]? =some c):
    ∃g,ao=some ⟨g,0,none⟩∧base≤g∧g<w.heap.size∧w.cell? ⟨g,i,none⟩=some (byteV c):=by
 have hi':=(List.getElem?_eq_some_iff.1 hi).1;have hlen:=h.1;rcases h.2 with⟨hv,hn⟩ | ⟨g,cap',cur,hv,hg,hh,_⟩
 ·rw[List.length_map]at hlen;omega
 ·cases hv
  have hlt:g<w.heap.size:=(Array.getElem?_eq_some_iff.1 hh).1;refine⟨g,rfl,hg,hlt, ?_⟩;have:=h.cells (g:=g) rfl i (byteV c) (by simp[hi]);rw[Addr.add]at this;split at this
  ·rename_i h0;rw[h0];exact this
  ·simpa using this
set_option maxRecDepth 100000 in
set_option maxHeartbeats 3200000 in
theorem rd_one(Rb base:Nat)(bytes:List Nat)(i c:Nat)(x:B.Ins)(w:World)(hr:RdAt w base Rb bytes i x)(hc:bytes[i]? =some c)(hlen:bytes.length≤100)(hc256:c<256):
    Calls Tryz.prog 166 #[P0 Rb] w fun e w'=>e= .returned (.int .i64 c)∧RdAt w' base Rb bytes (i+1) x∧Below base w w':=by
 obtain⟨⟨ao,n,cap,hblk,hn,hown⟩,hlo⟩:=hr;obtain⟨g,rfl,hg0,hg1,hgc⟩:=own_cell hown hc
 have hin:i<bytes.length:=by
  rcases Nat.lt_or_ge i bytes.length with h | h
  ·exact h
  ·rw[List.getElem?_eq_none h]at hc;cases hc
 have hne:=own_ne hown hblk (by decide)
 have hgne:g≠Rb:=fun e=>hne (by simp[Value.ownBlock,e])
 have hc0:=cell_of_row w Rb 0 _ _ _ hblk;have hc1:=cell_of_row w Rb 1 _ _ _ hblk;have hf1:w.frozen? ⟨Rb,1,none⟩=false:=frozen_blk hblk;simp only[rdCells,List.getElem?_toArray,List.getElem?_cons_zero,List.getElem?_cons_succ]at hc0 hc1
 have hgc2:∀(k:Nat) (v:Value),((w.drewN k).setCell ⟨Rb,1,none⟩ v).cell? ⟨g,i,none⟩=some (byteV c):=fun k v=>(World.cell?_setCell_far (w.drewN k) ⟨Rb,1,none⟩ ⟨g,i,none⟩ v (fun e=>hgne e.symm)).trans hgc
 unfold byteV at hgc2
 have hd:decide ((n:Int)≤(i:Int))=false:=by simp;omega
 have HB:=hd' hblk;have HO:=hd' hown;have HN:=hd' hn;clear hblk hown hne;have hi0:(0:Int)≤(i:Int):=Int.natCast_nonneg _
 have hin2:(i:Int)<(bytes.length:Int):=by omega
 have hw66:IntKind.i64.wrap (i:Int)=(i:Int):=IntWalk.i64_in _ (by omega);have hw64:IntKind.i64.wrap ((i:Int)+1)=(i:Int)+1:=IntWalk.i64_in _ (by omega)
 have hw65:IntKind.i64.wrap ((i:Int)+1-1)=(i:Int):=by rw[IntWalk.i64_in _ (by omega)];omega
 unfold P0;go_enter Tryz.func166,Tryz.ntmps166;go_wp2_with fail
 go_quiet (fail)
 go_wp2_with fail
 go_quiet (fail)
 go_wp2
 go_ret;refine⟨rfl,⟨⟨some ⟨g,0,none⟩,n,cap, ?_,HN.out, ?_⟩,hlo⟩, ?_⟩
 ·exact(blk_setCell (w:=w.drewN _) (off:=1) HB.out _).trans rfl
 ·exact ownsRow_setCell_other (w:=w.drewN _) HO.out (by simpa[Value.ownBlock]using hgne) _
 ·exact belowN ((belowN (Below.refl _ _) _).setCell hlo _) _
theorem and127(c:Nat)(h:c<18446744073709551616):bits .and .u64 (c:Int) 127=((c%128:Nat):Int):=by
 have:=u64_and_nat c 127 h (by omega);rw[show((127:Nat):Int)=127 from rfl]at this;rw[this,Nat.and_two_pow_sub_one_eq_mod c 7]
theorem or_join(a b s:Nat)(ha:a<2^s)(hb:a+b*2^s<18446744073709551616):bits .or .u64 (a:Int) ((b*2^s:Nat):Int)=((a+b*2^s:Nat):Int):=by
 rw[u64_or_nat a _ (by omega) (by omega),Nat.or_comm,nat_join s _ _ (by rw[Nat.mul_mod_left]) ha,Nat.add_comm]
structure Part(bytes:List Nat)(p v j m acc:Nat):Prop where
 sum:acc+m*2^(7*j)=v
 low:acc<2^(7*j)
 pos:0<j→0<m
 lies:∀i c,(sevens m)[i]? =some c→bytes[p+j+i]? =some c
theorem sevens_head(m:Nat):(sevens m)[0]? =some (if m≤127 then m else m%128+128):=by
 by_cases h:m≤127
 ·rw[sevens_small h,if_pos h];rfl
 ·rw[sevens_more h,if_neg h];rfl
theorem Part.step{bytes:List Nat}{p v j m acc:Nat}(h:Part bytes p v j m acc)(hm:¬m≤127):Part bytes p v (j+1) (m/128) (acc+m%128*2^(7*j)):=by
 have e:2^(7*(j+1))=2^(7*j)*128:=by rw[show 7*(j+1)=7*j+7 by omega,Nat.pow_add]
 have hdm:=Nat.div_add_mod m 128;have hlt:=Nat.mod_lt m (show 0<128 by omega);refine⟨?_, ?_,fun _=>by omega, ?_⟩
 ·rw[←h.sum,e,Nat.add_assoc]
  congr 1;rw[Nat.mul_comm (2^(7*j)) 128,←Nat.mul_assoc,←Nat.add_mul];congr 1;omega
 ·have h1:=h.low
  rw[e];have h2:m%128*2^(7*j)≤127*2^(7*j):=Nat.mul_le_mul_right _ (by omega);omega
 ·intro i c hc
  have:=h.lies (i+1) c (by rw[sevens_more hm];simpa using hc);rw[show p+(j+1)+i=p+j+(i+1) by omega];exact this
theorem Part.shift{bytes:List Nat}{p v j m acc:Nat}(h:Part bytes p v j m acc)(hv:v<18446744073709551616):j≤9:=by
 rcases Nat.eq_zero_or_pos j with rfl | hj
 ·omega
 ·have h1:=h.pos hj
  have h2:=h.sum;apply Nat.le_of_not_lt;intro h9;have h3:2^70≤2^(7*j):=Nat.pow_le_pow_right (by omega) (by omega);have h4:1*2^(7*j)≤m*2^(7*j):=Nat.mul_le_mul_right _ h1;omega
theorem Part.fit{bytes:List Nat}{p v j m acc c:Nat}(h:Part bytes p v j m acc)(hv:v<18446744073709551616)(hc:c≤m):Lib.bitLen c+7*j≤64:=by
 have hj:=h.shift hv
 by_cases h0:c=0
 ·subst h0
  have:Lib.bitLen 0=0:=rfl;omega
 ·have h2:=h.sum
  have h2p:1≤2^(7*j):=Nat.one_le_two_pow;have hm:c*1≤m*2^(7*j):=Nat.mul_le_mul hc h2p;obtain⟨hb,h1,_⟩:=Lib.bitLenAux_bounds 64 c (by omega) h0;have eb:Lib.bitLenAux 64 c=Lib.bitLen c:=rfl;rw[eb]at hb h1;apply Nat.le_of_not_lt;intro h9;have h3:2^(Lib.bitLen c-1)*2^(7*j)≤m*2^(7*j):=Nat.mul_le_mul_right _ (by omega);rw[←Nat.pow_add]at h3;have h4:2^64≤2^(Lib.bitLen c-1+7*j):=Nat.pow_le_pow_right (by omega) (by omega);omega
theorem RdAt.drew{w:World}{base Rb:Nat}{bytes:List Nat}{p:Nat}{x:B.Ins}(hr:RdAt w base Rb bytes p x):RdAt w.drew base Rb bytes p x:=⟨hr.ex,hr.lo⟩
theorem value_sum{bytes:List Nat}{p v j m acc:Nat}(h:Part bytes p v j m acc)(hv:v<18446744073709551616):bits .or .u64 (acc:Int) (IntKind.u64.wrap ((m:Int)*2^(7*j)))=(v:Int):=by
 have h1:=h.sum
 have h2:(m:Int)*2^(7*j)=((m*2^(7*j):Nat):Int):=by push_cast;rfl
 have h3:IntKind.u64.wrap ((m*2^(7*j):Nat):Int)=((m*2^(7*j):Nat):Int):=by
  have:∀n:Int,IntKind.u64.wrap n=n%18446744073709551616:=fun n=>by simp[IntKind.wrap,IntKind.signed,IntKind.bits]
  rw[this];omega
 rw[h2,h3,or_join acc m (7*j) h.low (by omega),h1]
theorem value_more{bytes:List Nat}{p v j m acc k:Nat}(h:Part bytes p v j m acc)(hk:m%128=k)(hv:v<18446744073709551616):bits .or .u64 (acc:Int) (IntKind.u64.wrap ((k:Int)*2^(7*j)))=((acc+k*2^(7*j):Nat):Int):=by
 have h1:=h.sum;have h4:k*2^(7*j)≤m*2^(7*j):=Nat.mul_le_mul_right _ (by rw[←hk];exact Nat.mod_le _ _)
 have h2:(k:Int)*2^(7*j)=((k*2^(7*j):Nat):Int):=by push_cast;rfl
 have h3:IntKind.u64.wrap ((k*2^(7*j):Nat):Int)=((k*2^(7*j):Nat):Int):=by
  have:∀n:Int,IntKind.u64.wrap n=n%18446744073709551616:=fun n=>by simp[IntKind.wrap,IntKind.signed,IntKind.bits]
  rw[this];omega
 rw[h2,h3,or_join acc k (7*j) h.low (by omega)]
theorem RdAt.err{w:World}{base Rb:Nat}{bytes:List Nat}{p:Nat}{x:B.Ins}(hr:RdAt w base Rb bytes p x):w.cell? ⟨Rb,7,none⟩=some .nilIface:=by
 obtain⟨⟨ao,n,cap,hblk,hn,hown⟩,hlo⟩:=hr;have:=cell_of_row w Rb 7 _ _ _ hblk;simpa[rdCells]using this
theorem Part.last{bytes:List Nat}{p v j m acc:Nat}(h:Part bytes p v j m acc)(hv:v<18446744073709551616)(hm:¬m≤127):j≤8:=by
 have hj:=h.shift hv;apply Nat.le_of_not_lt;intro h9
 obtain rfl:j=9:=by omega
 have:=h.sum;omega
set_option maxRecDepth 100000 in
set_option maxHeartbeats 3200000 in
theorem rd_sevens(Rb base:Nat)(bytes:List Nat)(p v:Nat)(x:B.Ins)(w:World)(hr:RdAt w base Rb bytes p x)(hv:v<18446744073709551616)(hc:∀i c,(sevens v)[i]? =some c→bytes[p+i]? =some c)(hlen:bytes.length≤100):
    Calls Tryz.prog 176 #[P0 Rb] w fun e w'=>e= .returned (.int .u64 v)∧RdAt w' base Rb bytes (p+(sevens v).length) x∧Below base w w':=by
 have hc1:w.cell? ⟨Rb,1,none⟩=some (.int .i64 (p:Nat)):=by
  obtain⟨⟨ao,n,cap,hblk,hn,hown⟩,hlo⟩:=hr;have:=cell_of_row w Rb 1 _ _ _ hblk;simpa[rdCells]using this
 have HR:=hd' hr;have HC:=hd' hc
 have hpb:p≤100:=by
  have:=hc 0 _ (sevens_head v);have:=(List.getElem?_eq_some_iff.1 this).1;omega
 clear hr hc;unfold P0;go_enter Tryz.func176,Tryz.ntmps176;go_wp2_with fail
 go_loopw [4,5] (fun v4 v5 wr=>∃(j m acc:Nat),v4= .int .u64 acc∧v5= .int .i64 (7*j:Nat)∧Part bytes p v j m acc∧(p+j+(sevens m).length=p+(sevens v).length)∧RdAt wr base Rb bytes (p+j) x∧Below base w wr)
  (fun _ v5 _=>100-(intOf v5).toNat)
 case atStart=>exact⟨0,v,0,rfl,rfl,⟨by simp,by simp,fun h=>absurd h (by omega),HC.out⟩,rfl,HR.out,Below.refl _ _⟩
 case round=>
  obtain⟨j,m,acc,rfl,rfl,hp,hl,hrr,hb⟩:=hrel;have hj9:=hp.shift hv;have HP:=hd' hp;have HL:=hd' hl;have HB:=hd' hb;have HRR:=hd' hrr;clear hp hl hb hrr
  by_cases h127:m≤127
  ·have hhead:bytes[p+j]? =some m:=by
     have:=HP.out.lies 0 _ (sevens_head m);rw[if_pos h127]at this;exact this
   have ha:=and127 m (by omega);rw[show m%128=m by omega]at ha;have hf:=HP.out.fit hv (lR' m);have hf2:Lib.bitLen (m:Int).toNat=Lib.bitLen m:=rfl;have hj0:0<j→0<m:=HP.out.pos;have hb0:Lib.bitLen 0=0:=rfl
   go_wp2_with (first
    | (go_at_call 166;refine(rd_one Rb base bytes (p+j) m x _ HRR.out hhead hlen (by omega)).mono ?_;rintro e w1 ⟨rfl,hr1,hb1⟩;have herr:=hr1.err)
    | (go_at_call 194;refine(Tryz.bits_Len64 _ _ (by omega) (by omega)).mono ?_;rintro e w2 ⟨rfl,rfl⟩))
   all_goals go_ret
   all_goals refine⟨?_, ?_,HB.out.trans hb1⟩
   all_goals first
    | (have hq:=HL.out;rw[sevens_small h127]at hq;rw[←hq];exact hr1)
    | skip
   all_goals refine ret_int ?_
   ·rw[show(m:Int)*9223372036854775808=((m*2^(7*j):Nat):Int) by(obtain rfl:j=9:=by omega);rfl]
    exact value_sum HP.out hv
   ·have hm0:m=0:=by assumption
    rw[show bits BinOp.and IntKind.u64 0 127=(m:Int) by rw[hm0];exact and127 0 (by omega)];exact value_sum HP.out hv
   ·exact value_sum HP.out hv
  ·have hlt128:=Nat.mod_lt m (show 0<128 by omega)
   have hhead:bytes[p+j]? =some (m%128+128):=by
    have:=HP.out.lies 0 _ (sevens_head m);rw[if_neg h127]at this;exact this
   have hle:m%128≤m:=Nat.mod_le _ _;have hj8:=HP.out.last hv h127;have hst:=hd' (HP.out.step h127);have hf:=HP.out.fit hv hle;have ha:=and127 (m%128+128) (by omega);rw[show(m%128+128)%128=m%128 by omega]at ha;generalize hk:m%128=k at*;have hf2:Lib.bitLen (k:Int).toNat=Lib.bitLen k:=rfl;have ha2:bits .and .u64 ((k:Int)+128) 127=(k:Int):=ha;clear ha;have hb0:Lib.bitLen 0=0:=rfl
   go_wp2_with (first
    | (go_at_call 166;refine(rd_one Rb base bytes (p+j) (k+128) x _ HRR.out hhead hlen (by omega)).mono ?_;rintro e w1 ⟨rfl,hr1,hb1⟩;have herr:=hr1.err)
    | (go_at_call 194;refine(Tryz.bits_Len64 _ _ (by omega) (by omega)).mono ?_;rintro e w2 ⟨rfl,rfl⟩))
   have hor:=value_more HP.out hk hv;have hlen2:=HL.out;rw[sevens_more h127,List.length_cons]at hlen2;have hbig:=hst.out.shift hv;go_roundw
   case rel=>exact⟨j+1,m/128,acc+k*2^(7*j),by rw[hor],by go_num,hst.out,by omega,hr1,HB.out.trans hb1⟩
   case measure=>
    simp[intOf];omega
def B.Ins.set(x:B.Ins)(k:Nat)(v:Int):B.Ins:=if k=0 then { x with a:=v}else if k=1 then { x with b:=v}else { x with n:=v}
def got(fk:FK)(x y:B.Ins):B.Ins:=
 match fk with
 | .small k _ _=>B.Ins.set x k (byteOf (get k y))
 | .number=> { x with imm:=y.imm}
 | .sign=> { x with imm:=y.imm}
 | .skip=> { x with n:=y.n}
 | .bytes=> { x with n:=byteOf y.n}
theorem RdAt.setCell{w:World}{base Rb:Nat}{bytes:List Nat}{p:Nat}{x:B.Ins}(hr:RdAt w base Rb bytes p x)(off:Nat)(u:Value)(y:B.Ins)
    (hy:∀ao n cap,(rdCells ao n cap p x).setIfInBounds off u=rdCells ao n cap p y):RdAt (w.setCell ⟨Rb,off,none⟩ u) base Rb bytes p y:=by
 obtain⟨⟨ao,n,cap,hblk,hn,hown⟩,hlo⟩:=hr;have hne:=own_ne hown hblk (by decide);exact⟨⟨ao,n,cap,by rw[blk_setCell hblk,hy],hn,ownsRow_setCell_other hown (by simpa using hne) _⟩,hlo⟩
theorem RdAt.facts{w:World}{base Rb:Nat}{bytes:List Nat}{p:Nat}{x:B.Ins}(hr:RdAt w base Rb bytes p x):
    w.cell? ⟨Rb,3,none⟩=some (.int .i64 x.a)∧w.cell? ⟨Rb,4,none⟩=some (.int .i64 x.b)∧w.cell? ⟨Rb,5,none⟩=some (.int .i64 x.n)∧w.cell? ⟨Rb,6,none⟩=some (.int .u64 x.imm)∧(∀k,w.frozen? ⟨Rb,k,none⟩=false)∧Rb<w.heap.size:=by
 obtain⟨⟨ao,n,cap,hblk,hn,hown⟩,hlo⟩:=hr;have h3:=cell_of_row w Rb 3 _ _ _ hblk;have h4:=cell_of_row w Rb 4 _ _ _ hblk;have h5:=cell_of_row w Rb 5 _ _ _ hblk;have h6:=cell_of_row w Rb 6 _ _ _ hblk;simp only[rdCells,List.getElem?_toArray,List.getElem?_cons_zero,List.getElem?_cons_succ]at h3 h4 h5 h6;exact⟨h3,h4,h5,h6,fun k=>frozen_blk hblk,lt_of_block hblk⟩
set_option maxRecDepth 100000 in
set_option maxHeartbeats 3200000 in
theorem read_number(Rb base:Nat)(bytes:List Nat)(p v:Nat)(x:B.Ins)(w:World)(hr:RdAt w base Rb bytes p x)(hv:v<18446744073709551616)(hc:∀i c,(sevens v)[i]? =some c→bytes[p+i]? =some c)(hlen:bytes.length≤100):
    Calls Tryz.prog 175 #[P0 Rb] w fun e w'=>e= .returned (.tuple #[])∧RdAt w' base Rb bytes (p+(sevens v).length) { x with imm:=v}∧Below base w w':=by
 have hlo:=hr.lo;have HR:=hd' hr;have HC:=hd' hc;clear hr hc;unfold P0;go_enter Tryz.func175,Tryz.ntmps175;go_wp2_with (go_at_call 176;refine(rd_sevens Rb base bytes p v x _ HR.out hv HC.out hlen).mono ?_;rintro e w1 ⟨rfl,hr1,hb1⟩;have h6:=hr1.facts.2.2.2.1;have hf6:=hr1.facts.2.2.2.2.1 6;have hRb:=hr1.facts.2.2.2.2.2)
 go_end0
 exact⟨rfl,hr1.setCell 6 _ _ (fun _ _ _=>rfl),hb1.setCell hlo _⟩
set_option maxRecDepth 100000 in
set_option maxHeartbeats 3200000 in
theorem read_skip(Rb base:Nat)(bytes:List Nat)(p v:Nat)(x:B.Ins)(w:World)(hr:RdAt w base Rb bytes p x)(hv:v≤16384)(hc:∀i c,(sevens v)[i]? =some c→bytes[p+i]? =some c)(hlen:bytes.length≤100):
    Calls Tryz.prog 202 #[P0 Rb] w fun e w'=>e= .returned (.tuple #[])∧RdAt w' base Rb bytes (p+(sevens v).length) { x with n:=v}∧Below base w w':=by
 have hlo:=hr.lo;have HR:=hd' hr;have HC:=hd' hc;clear hr hc;unfold P0;go_enter Tryz.func202,Tryz.ntmps202;go_wp2_with (go_at_call 176;refine(rd_sevens Rb base bytes p v x _ HR.out (by omega) HC.out hlen).mono ?_;rintro e w1 ⟨rfl,hr1,hb1⟩;have h6:=hr1.facts.2.2.1;have hf6:=hr1.facts.2.2.2.2.1 5;have hRb:=hr1.facts.2.2.2.2.2)
 have hmin:min (v:Int) 16385=v:=by omega
 rw[hmin]
 go_end0
 exact⟨rfl,hr1.setCell 5 _ _ (fun _ _ _=>rfl),hb1.setCell hlo _⟩
set_option maxRecDepth 100000 in
set_option maxHeartbeats 3200000 in
theorem read_small(k:Nat)(hk:k≤2)(b4 Rb base:Nat)(bytes:List Nat)(p c:Nat)(x:B.Ins)(w:World)(h4:w.cell? ⟨b4,0,none⟩=some (fn0 (atFn k)))(hl4:b4<base)(hr:RdAt w base Rb bytes p x)(hc:bytes[p]? =some c)(hc256:c<256)(hlen:bytes.length≤100):
    Calls Tryz.prog 165 #[P0 Rb,P0 b4] w fun e w'=>e= .returned (.tuple #[])∧RdAt w' base Rb bytes (p+1) (B.Ins.set x k c)∧Below base w w':=by
 have hlo:=hr.lo;have hRb:=hr.facts.2.2.2.2.2;have HR:=hd' hr;unfold P0;clear hr;rcases(show k=0∨k=1∨k=2 by omega)with rfl | rfl | rfl
 ·have g:B.Ins.set x 0 c= { x with a:=c}:=rfl
  rw[g];clear g;have e:fn0 (atFn 0)= .func (.func 136) #[] #[]:=rfl;rw[e]at h4;clear e;go_enter Tryz.func165,Tryz.ntmps165
  go_region_law (first
   | (go_simp;go_at_call 136;refine(fieldA_any _ _ _).mono ?_;rintro e w1 ⟨rfl,rfl⟩)
   | (go_simp;go_at_call 166;refine(rd_one Rb base bytes p c x _ HR.out.drew hc hlen hc256).mono ?_;rintro e w1 ⟨rfl,hr1,hb1⟩;have h4b:=(hb1.cell (p:=⟨b4,0,none⟩) hl4).trans h4;have hf:=hr1.facts;have hs1:=hb1.size))
  all_goals go_end0
  all_goals exact⟨rfl,hr1.setCell 3 _ _ (fun _ _ _=>rfl),(((Below.refl base w).drew).trans hb1).setCell hlo _⟩
 ·have g:B.Ins.set x 1 c= { x with b:=c}:=rfl
  rw[g];clear g;have e:fn0 (atFn 1)= .func (.func 137) #[] #[]:=rfl;rw[e]at h4;clear e;go_enter Tryz.func165,Tryz.ntmps165
  go_region_law (first
   | (go_simp;go_at_call 137;refine(fieldB_any _ _ _).mono ?_;rintro e w1 ⟨rfl,rfl⟩)
   | (go_simp;go_at_call 166;refine(rd_one Rb base bytes p c x _ HR.out.drew hc hlen hc256).mono ?_;rintro e w1 ⟨rfl,hr1,hb1⟩;have h4b:=(hb1.cell (p:=⟨b4,0,none⟩) hl4).trans h4;have hf:=hr1.facts;have hs1:=hb1.size))
  all_goals go_end0
  all_goals exact⟨rfl,hr1.setCell 4 _ _ (fun _ _ _=>rfl),(((Below.refl base w).drew).trans hb1).setCell hlo _⟩
 ·have g:B.Ins.set x 2 c= { x with n:=c}:=rfl
  rw[g];clear g;have e:fn0 (atFn 2)= .func (.func 181) #[] #[]:=rfl;rw[e]at h4;clear e;go_enter Tryz.func165,Tryz.ntmps165
  go_region_law (first
   | (go_simp;go_at_call 181;refine(fieldN_any _ _ _).mono ?_;rintro e w1 ⟨rfl,rfl⟩)
   | (go_simp;go_at_call 166;refine(rd_one Rb base bytes p c x _ HR.out.drew hc hlen hc256).mono ?_;rintro e w1 ⟨rfl,hr1,hb1⟩;have h4b:=(hb1.cell (p:=⟨b4,0,none⟩) hl4).trans h4;have hf:=hr1.facts;have hs1:=hb1.size))
  all_goals go_end0
  all_goals exact⟨rfl,hr1.setCell 5 _ _ (fun _ _ _=>rfl),(((Below.refl base w).drew).trans hb1).setCell hlo _⟩
end Code
end Go.Proofs.YtljhklblbafjkaaGreatDoor
namespace Go.Proofs.YtljhklblbafjkaaGreatDoor
open Go.RowKit
namespace Code
def meth(f:Nat)(T:Value):Value:=.func (.func f) #[T] #[]
structure Mk(N:Nat)(W w:World)(B b:Nat)(T:Array Value)(l:List (Int×Value)):Prop where
 blk:w.heap[B]? =some (.cells T 231 (0,0))
 map:MapIs w b l
 ne:B≠b
 lo:N≤b
 below:Below N W w
theorem Mk.insert{N:Nat}{W w:World}{B b:Nat}{T:Array Value}{l:List (Int×Value)}(h:Mk N W w B b T l)(k:Int)(v:Value)(hk:∀p∈l,p.1≠k)(hN:N≤w.heap.size):
    ∃w',(Instr.mapUpdate 182 (.map (some b)) (.int .i64 k) v).run Tryz.prog w= .ok () w'∧Mk N W w' B b T (l++[(k,v)])∧N≤w'.heap.size:=by
 obtain⟨w',hr,hm,hg⟩:=run_insert h.map k v hk;have hlt:=lt_of_block h.blk;refine⟨w',hr,⟨(hg.block B hlt (fun e=>h.ne (by simpa using e))).trans h.blk,hm,h.ne,h.lo,h.below.grown hg hN ?_⟩,Nat.le_trans hN hg.size⟩;intro k hk;simp at hk;have:=h.lo;omega
theorem mk_start(w:World)(T:Array Value):Mk w.heap.size w ((w.alloc (.cells T 231)).alloc (.map #[] 0)) w.heap.size (w.heap.size+1) T []:=by
 refine⟨?_,⟨#[],0, ?_,rfl⟩,by omega,by omega,((Below.refl _ _).alloc (lR' _) _).alloc (by simp) _⟩
 ·have:=Below.heap_alloc (w.alloc (.cells T 231)) (.map #[] 0) w.heap.size (by simp)
  rw[this];exact heap_alloc_new w _
 ·have:=heap_alloc_new (w.alloc (.cells T 231)) (.map #[] 0)
  simpa using this
theorem step_put{ops:Array Oper}{rest:List Oper}{o1 o2 o3:Oper}{a:Act}{w:World}{Q:Exit→Act→World→Prop}{N:Nat}{W:World}{B b:Nat}{T:Array Value}{l:List (Int×Value)}
    (h:Mk N W w B b T l) (hN:N≤w.heap.size) (hT:T.size=20) (g1:o1.guard=none) (g2:o2.guard=none) (g3:o3.guard=none) {i1 i2:Nat} {f:Nat} {k:Int} {m x:Operand}
    (e1:o1.op= .load 231 x) (d1:o1.dst=some i1) (hx:a.eval x= .pointer (some ⟨B,0,none⟩))
    (e2:o2.op= .makeFunc (.func f) #[.tmp i1] #[]) (d2:o2.dst=some i2)
    (e3:o3.op= .insert 182 m (.const (.int .i64 k)) (.tmp i2)) (d3:o3.dst=none)
    (h1:(a.put (some i1) (.agg T)).eval (.tmp i1)= .agg T) (h2:∀v,((a.put (some i1) (.agg T)).put (some i2) v).eval (.tmp i2)=v) (h3:∀v,((a.put (some i1) (.agg T)).put (some i2) v).eval m= .map (some b))
    (hk:∀p∈l,p.1≠k)
    (hK:∀w',Mk N W w' B b T (l++[(k,meth f (.agg T))])→N≤w'.heap.size→wpList Tryz.prog ops Q rest ((a.put (some i1) (.agg T)).put (some i2) (meth f (.agg T))) w'):
    wpList Tryz.prog ops Q (o1::o2::o3::rest) a w:=by
 have hr:w.rangeAt B 0 T.toList:=by
  have:=World.rangeAt_of_block h.blk 0 T.size;simpa using this
 refine wpList_load_mid g1 231 x e1 B 0 hx T.toList _ hr Tryz.underlying231 rfl (by rw[Array.length_toList,hT];kernel_rfl) ?_;rw[d1]
 refine wpList_plain g2 fun K' hK'=> ?_
 unfold Oper.wp;simp[execOp,e2,Instr.makeFunc,h1];refine hK' _ _ ?_;rw[d2]
 refine wpList_plain g3 fun K2 hK2=> ?_
 obtain⟨w',hrun,hm',hN'⟩:=h.insert k (meth f (.agg T)) hk hN;unfold Oper.wp;have e4:=h2 (meth f (.agg T));have e5:=h3 (meth f (.agg T))
 have e6:∀c:Act,c.eval (.const (.int .i64 k))= .int .i64 k:=fun _=>rfl
 simp only[meth]at e4 e5 hrun;simp[execOp,e3,e4,e5,e6,hrun,Result.andThen];refine hK2 _ _ ?_;rw[d3];exact hK w' hm' hN'
def kOf(f:Nat):Nat:=if f=136 then 0 else if f=137 then 1 else 2
theorem small_fn(f:Nat)(lo hi:Int)(s:ByteArray)(w:World)(hf:f=136∨f=137∨f=181)(hs:s.size≤1):
    Calls Tryz.prog 135 #[.func (.func f) #[] #[],.int .i64 lo,.int .i64 hi,.string s] w fun e w'=>∃v0 v1 v2 v3 v4,e= .returned (.agg #[v0,v1,v2,v3,v4])∧FieldAt w' (.small (kOf f) lo hi) v0 v1 v2 v3 v4∧Below w.heap.size w w':=by
 rcases hf with rfl | rfl | rfl
 ·exact small_any 0 lo hi s w (by omega) hs
 ·exact small_any 1 lo hi s w (by omega) hs
 ·exact small_any 2 lo hi s w (by omega) hs
theorem FieldAt.one{w:World}{fk:FK}{v0 v1 v2 v3 v4:Value}(h:FieldAt w fk v0 v1 v2 v3 v4):v0.oneCell'=true∧v1.oneCell'=true∧v2.oneCell'=true∧v3.oneCell'=true∧v4.oneCell'=true:=by
 cases fk with
 | small k lo hi=>obtain⟨_,_,_,_,_,_,rfl,rfl,rfl,rfl,rfl⟩:=h;exact⟨rfl,rfl,rfl,rfl,rfl⟩
 | number=>obtain⟨rfl,rfl,rfl,rfl,rfl⟩:=h;exact⟨rfl,rfl,rfl,rfl,rfl⟩
 | sign=>obtain⟨rfl,rfl,rfl,rfl,rfl⟩:=h;exact⟨rfl,rfl,rfl,rfl,rfl⟩
 | skip=>obtain⟨_,_,_,_,_,rfl,rfl,rfl,rfl,rfl⟩:=h;exact⟨rfl,rfl,rfl,rfl,rfl⟩
 | bytes=>obtain⟨_,_,_,_,_,rfl,rfl,rfl,rfl,rfl⟩:=h;exact⟨rfl,rfl,rfl,rfl,rfl⟩
def Hold(p:Prop):Prop:=p
theorem hold{p:Prop}(h:Hold p):p:=h
def tabL(T:Value):List (Int×Value):=[(0,meth 139 T),(1,meth 140 T),(2,meth 141 T),(3,meth 141 T),(4,meth 141 T),(5,meth 141 T),(6,meth 142 T),(7,meth 142 T),(8,meth 140 T),(9,meth 143 T),(10,meth 143 T),(11,meth 143 T),(12,meth 143 T),(13,meth 144 T),(14,meth 145 T),(15,meth 146 T),(16,meth 146 T),(17,meth 147 T),(18,meth 148 T),(19,meth 149 T)]
def TableAt(w:World)(T:Value):Prop:=
 ∃v0 v1 v2 v3 v4 v5 v6 v7 v8 v9 v10 v11 v12 v13 v14 v15 v16 v17 v18 v19,T= .agg #[v0,v1,v2,v3,v4,v5,v6,v7,v8,v9,v10,v11,v12,v13,v14,v15,v16,v17,v18,v19]∧
  FieldAt w (.small 0 0 15) v0 v1 v2 v3 v4∧FieldAt w (.small 1 0 15) v5 v6 v7 v8 v9∧FieldAt w (.small 1 0 63) v10 v11 v12 v13 v14∧FieldAt w .number v15 v16 v17 v18 v19
set_option maxRecDepth 100000 in
set_option maxHeartbeats 1600000 in
theorem made_any(w:World):Calls Tryz.prog 105 #[] w fun e w'=>∃T b,e= .returned (.map (some b))∧w.heap.size≤b∧MapIs w' b (tabL T)∧TableAt w' T∧Below w.heap.size w w':=by
 have hmm:= @run_makeMap Tryz.prog
 have hinfo:(Tryz.prog.info? 231).map (·.size)=some 20:=by kernel_rfl
 go_enter Tryz.func105,Tryz.ntmps105
 go_wp2_with (first
  | (go_at_call 135;guard_hyp hF2;refine(small_fn _ _ _ _ _ (by decide) (by decide)).mono ?_;rintro e w3 ⟨v10,v11,v12,v13,v14,rfl,hF3,hb3⟩)
  | (go_at_call 135;guard_hyp hF1;refine(small_fn _ _ _ _ _ (by decide) (by decide)).mono ?_;rintro e w2 ⟨v5,v6,v7,v8,v9,rfl,hF2,hb2⟩)
  | (go_at_call 135;refine(small_fn _ _ _ _ _ (by decide) (by decide)).mono ?_;rintro e w1 ⟨v0,v1,v2,v3,v4,rfl,hF1,hb1⟩)
  | (go_at_call 138;refine(number_any _).mono ?_;rintro e w4 ⟨v15,v16,v17,v18,v19,rfl,hF4,hb4⟩;have hmk:Mk w4.heap.size w4 ((w4.alloc (.cells #[v0,v1,v2,v3,v4,v5,v6,v7,v8,v9,v10,v11,v12,v13,v14,v15,v16,v17,v18,v19] 231)).alloc (.map #[] 0)) w4.heap.size (w4.heap.size+1) #[v0,v1,v2,v3,v4,v5,v6,v7,v8,v9,v10,v11,v12,v13,v14,v15,v16,v17,v18,v19] []:=mk_start _ _;have hN:w4.heap.size≤((w4.alloc (.cells #[v0,v1,v2,v3,v4,v5,v6,v7,v8,v9,v10,v11,v12,v13,v14,v15,v16,v17,v18,v19] 231)).alloc (.map #[] 0)).heap.size:=(by simp;omega);refine hold ?_))
 unfold Hold;go_simp
 iterate 7 go_step
 refine step_store_new (by rfl) 231 (.tmp 1) (.tmp 6) (by rfl) _ #[v0,v1,v2,v3,v4,v5,v6,v7,v8,v9,v10,v11,v12,v13,v14,v15,v16,v17,v18,v19] (by rfl) (by rfl) (by rfl) hinfo ?h1 ?_
 case h1=>simp[hF1.one,hF2.one,hF3.one,hF4.one]
 iterate 8 (first | go_step | go_upon | go_simp)
 iterate 20 (refine step_put hmk hN (by rfl) (by rfl) (by rfl) (by rfl) (by rfl) (by rfl) (by rfl) (by rfl) (by rfl) (by rfl) (by rfl) (by rfl) (fun _=>by rfl) (fun _=>by rfl) (by simp) ?_;clear hmk hN;intro w5 hmk hN;go_simp)
 go_wp2
 go_ret;have hb:=((hb1.trans (hb2.mono hb1.size)).trans (hb3.mono (Nat.le_trans hb1.size hb2.size))).trans (hb4.mono (Nat.le_trans hb1.size (Nat.le_trans hb2.size hb3.size)));have hz4:=hb.size;have l3:=hb4.size;have l2:=hb3.size;have l1:=hb2.size;refine⟨_,_,rfl,by omega,hmk.map,⟨v0,v1,v2,v3,v4,v5,v6,v7,v8,v9,v10,v11,v12,v13,v14,v15,v16,v17,v18,v19,rfl, ?_, ?_, ?_, ?_⟩,hb.trans (hmk.below.mono hz4)⟩
 ·exact(((hF1.below hb2 (lR' _)).below hb3 (lR' _)).below hb4 (lR' _)).below hmk.below (lR' _)
 ·exact((hF2.below hb3 (lR' _)).below hb4 (lR' _)).below hmk.below (lR' _)
 ·exact(hF3.below hb4 (lR' _)).below hmk.below (lR' _)
 ·exact hF4.below hmk.below (lR' _)
end Code
end Go.Proofs.YtljhklblbafjkaaGreatDoor
namespace Go.Proofs.YtljhklblbafjkaaGreatDoor
open Go.RowKit
namespace Code
def FieldOf(w:World)(ao:Option Addr)(i:Nat)(fk:FK):Prop:=
 ∃g v0 v1 v2 v3 v4,ao=some ⟨g,0,none⟩∧g<w.heap.size∧w.cell? ⟨g,i*5,none⟩=some v0∧w.cell? ⟨g,i*5+1,none⟩=some v1∧w.cell? ⟨g,i*5+2,none⟩=some v2∧
  w.cell? ⟨g,i*5+3,none⟩=some v3∧w.cell? ⟨g,i*5+4,none⟩=some v4∧FieldAt w fk v0 v1 v2 v3 v4
structure FieldsAt(w:World)(ao:Option Addr)(n:Nat)(fks:List FK):Prop where
 len:n=fks.length
 at_:∀i fk,fks[i]? =some fk→FieldOf w ao i fk
theorem FieldOf.below{N:Nat}{w w':World}{ao:Option Addr}{i:Nat}{fk:FK}(h:FieldOf w ao i fk)(hb:Below N w w')(hN:w.heap.size≤N):FieldOf w' ao i fk:=by
 obtain⟨g,v0,v1,v2,v3,v4,rfl,hg,h0,h1,h2,h3,h4,hf⟩:=h;have hgN:=Nat.lt_of_lt_of_le hg hN
 exact⟨g,v0,v1,v2,v3,v4,rfl,Nat.lt_of_lt_of_le hg hb.size,(hb.cell (p:=⟨g,_,none⟩) hgN).trans h0,(hb.cell (p:=⟨g,_,none⟩) hgN).trans h1,(hb.cell (p:=⟨g,_,none⟩) hgN).trans h2,
  (hb.cell (p:=⟨g,_,none⟩) hgN).trans h3,(hb.cell (p:=⟨g,_,none⟩) hgN).trans h4,hf.below hb hN⟩
theorem FieldsAt.below{N:Nat}{w w':World}{ao:Option Addr}{n:Nat}{fks:List FK}(h:FieldsAt w ao n fks)(hb:Below N w w')(hN:w.heap.size≤N):FieldsAt w' ao n fks:=
 ⟨h.len,fun i fk hi=>(h.at_ i fk hi).below hb hN⟩
def reg:FK:=.small 0 0 15
def other:FK:=.small 1 0 15
def slot:FK:=.small 1 0 63
def Quint(w:World):List FK→List Value→Prop
 | [],_=>True
 | fk::r,v0::v1::v2::v3::v4::l=>FieldAt w fk v0 v1 v2 v3 v4∧Quint w r l
 | _::_,_=>False
theorem Quint.get{w:World}:∀ {fks:List FK} {vs:List Value},Quint w fks vs→∀i fk,fks[i]? =some fk→
    ∃v0 v1 v2 v3 v4,vs[i*5]? =some v0∧vs[i*5+1]? =some v1∧vs[i*5+2]? =some v2∧vs[i*5+3]? =some v3∧vs[i*5+4]? =some v4∧FieldAt w fk v0 v1 v2 v3 v4
 | [],_,_,i,fk,hi=>by simp at hi
 | f::r,v0::v1::v2::v3::v4::l,h,i,fk,hi=>by
  cases i with
  | zero=>
   simp at hi;subst hi;exact⟨v0,v1,v2,v3,v4,rfl,rfl,rfl,rfl,rfl,h.1⟩
  | succ i=>
   obtain⟨u0,u1,u2,u3,u4,h0,h1,h2,h3,h4,hf⟩:=Quint.get h.2 i fk (by simpa using hi)
   refine⟨u0,u1,u2,u3,u4, ?_, ?_, ?_, ?_, ?_,hf⟩<;>(rw[show(i+1)*5=i*5+5 by omega];assumption)
theorem fieldsAt_block{w:World}{g n:Nat}{vs:List Value}{t:TypeId}{fks:List FK}(hb:w.heap[g]? =some (.cells vs.toArray t (0,0)))(hn:n=fks.length)(h:Quint w fks vs):FieldsAt w (some ⟨g,0,none⟩) n fks:=by
 refine⟨hn,fun i fk hi=> ?_⟩;obtain⟨v0,v1,v2,v3,v4,h0,h1,h2,h3,h4,hf⟩:=h.get i fk hi
 refine⟨g,v0,v1,v2,v3,v4,rfl,lt_of_block hb, ?_, ?_, ?_, ?_, ?_,hf⟩<;>(rw[cell_of_row _ _ _ _ _ _ hb];simpa using by assumption)
theorem fields_top{w:World}{g n:Nat}{vs:List Value}{fks:List FK}(hq:Quint (w.alloc (.cells vs.toArray 194)) fks vs)(hg:g=w.heap.size)(hn:n=fks.length):
    FieldsAt (w.alloc (.cells vs.toArray 194)) (some ⟨g,0,none⟩) n fks:=by
 subst hg;exact fieldsAt_block (heap_alloc_new w _) hn hq
theorem res_cell{w w1:World}{N:Nat}{T:Array Value}{t:TypeId}(hb:Below N (w.alloc (.cells T t)) w1)(hN:w.heap.size<N)(j:Nat):w1.cell? ⟨w.heap.size,j,none⟩=T[j]? :=
 (hb.cell (p:=⟨w.heap.size,j,none⟩) hN).trans (cell_of_row _ _ _ _ _ _ (heap_alloc_new w _))
theorem res_frozen{w w1:World}{N:Nat}{T:Array Value}{t:TypeId}(hb:Below N (w.alloc (.cells T t)) w1)(hN:w.heap.size<N)(j:Nat):w1.frozen? ⟨w.heap.size,j,none⟩=false:=
 (hb.frozen (p:=⟨w.heap.size,j,none⟩) hN).trans (frozen_blk (heap_alloc_new w _))
theorem box_cell{w w1:World}{N:Nat}{T:Array Value}{t:TypeId}(hb:Below N (w.alloc (.cells T t)).drew w1)(hN:w.heap.size<N)(j:Nat):w1.cell? ⟨w.heap.size,j,none⟩=T[j]? :=
 (hb.cell (p:=⟨w.heap.size,j,none⟩) hN).trans (cell_of_row _ _ _ _ _ _ (heap_alloc_new w _))
theorem FieldAt.alloc{w:World}{fk:FK}{v0 v1 v2 v3 v4:Value}(h:FieldAt w fk v0 v1 v2 v3 v4)(o:Obj):FieldAt (w.alloc o) fk v0 v1 v2 v3 v4:=h.below ((Below.refl _ _).alloc (lR' _) o) (lR' _)
set_option maxRecDepth 100000 in
set_option maxHeartbeats 800000 in
theorem constant_any(T:Value)(w:World)(hT:TableAt w T):Calls Tryz.prog 140 #[T] w fun e w'=>∃ao cap,e= .returned (.slice ao 2 cap)∧FieldsAt w' ao 2 [reg,.number]∧Below w.heap.size w w':=by
 obtain⟨v0,v1,v2,v3,v4,v5,v6,v7,v8,v9,v10,v11,v12,v13,v14,v15,v16,v17,v18,v19,rfl,hF1,hF2,hF3,hF4⟩:=hT;have o1:=hF1.one;have o2:=hF2.one;have o3:=hF3.one;have o4:=hF4.one;go_enter Tryz.func140,Tryz.ntmps140
 go_wp2
 go_ret;exact⟨_,_,rfl,fields_top (by exact⟨(hF1.alloc _).alloc _,(hF4.alloc _).alloc _,trivial⟩) (by simp) rfl,((Below.refl _ _).alloc (lR' _) _).alloc (by simp) _⟩
set_option maxRecDepth 100000 in
set_option maxHeartbeats 800000 in
theorem both_any(T:Value)(w:World)(hT:TableAt w T):Calls Tryz.prog 141 #[T] w fun e w'=>∃ao cap,e= .returned (.slice ao 2 cap)∧FieldsAt w' ao 2 [reg,other]∧Below w.heap.size w w':=by
 obtain⟨v0,v1,v2,v3,v4,v5,v6,v7,v8,v9,v10,v11,v12,v13,v14,v15,v16,v17,v18,v19,rfl,hF1,hF2,hF3,hF4⟩:=hT;have o1:=hF1.one;have o2:=hF2.one;have o3:=hF3.one;have o4:=hF4.one;go_enter Tryz.func141,Tryz.ntmps141
 go_wp2
 go_ret;exact⟨_,_,rfl,fields_top (by exact⟨(hF1.alloc _).alloc _,(hF2.alloc _).alloc _,trivial⟩) (by simp) rfl,((Below.refl _ _).alloc (lR' _) _).alloc (by simp) _⟩
set_option maxRecDepth 100000 in
set_option maxHeartbeats 800000 in
theorem hand_any(T:Value)(w:World)(hT:TableAt w T):Calls Tryz.prog 146 #[T] w fun e w'=>∃ao cap,e= .returned (.slice ao 2 cap)∧FieldsAt w' ao 2 [reg,slot]∧Below w.heap.size w w':=by
 obtain⟨v0,v1,v2,v3,v4,v5,v6,v7,v8,v9,v10,v11,v12,v13,v14,v15,v16,v17,v18,v19,rfl,hF1,hF2,hF3,hF4⟩:=hT;have o1:=hF1.one;have o2:=hF2.one;have o3:=hF3.one;have o4:=hF4.one;go_enter Tryz.func146,Tryz.ntmps146
 go_wp2
 go_ret;exact⟨_,_,rfl,fields_top (by exact⟨(hF1.alloc _).alloc _,(hF3.alloc _).alloc _,trivial⟩) (by simp) rfl,((Below.refl _ _).alloc (lR' _) _).alloc (by simp) _⟩
set_option maxRecDepth 100000 in
set_option maxHeartbeats 800000 in
theorem none_any(T:Value)(w:World)(hT:TableAt w T):Calls Tryz.prog 139 #[T] w fun e w'=>∃ao cap,e= .returned (.slice ao 0 cap)∧FieldsAt w' ao 0 []∧Below w.heap.size w w':=by
 obtain⟨v0,v1,v2,v3,v4,v5,v6,v7,v8,v9,v10,v11,v12,v13,v14,v15,v16,v17,v18,v19,rfl,hF1,hF2,hF3,hF4⟩:=hT;have o1:=hF1.one;have o2:=hF2.one;have o3:=hF3.one;have o4:=hF4.one;go_enter Tryz.func139,Tryz.ntmps139
 go_wp2
 go_ret;exact⟨_,_,rfl,⟨rfl,fun i fk hi=>by simp at hi⟩,(Below.refl _ _).alloc (lR' _) _⟩
theorem Caps.ne{w:World}{k:Nat}{lo hi:Int}{b4 b5 b6 b7 B:Nat}(h:Caps w k lo hi b4 b5 b6 b7)(hB:w.cell? ⟨B,0,none⟩=some .nilFunc):b4≠B∧b5≠B∧b6≠B∧b7≠B:=by
 obtain⟨s,hs,h7⟩:=h.c7
 refine⟨?_, ?_, ?_, ?_⟩<;>rintro rfl
 ·have:=h.c4;rw[hB]at this;simp[fn0]at this
 ·have:=h.c5;rw[hB]at this;simp at this
 ·have:=h.c6;rw[hB]at this;simp at this
 ·rw[hB]at h7;simp at h7
theorem Caps.set{w:World}{k:Nat}{lo hi:Int}{b4 b5 b6 b7 B:Nat}(h:Caps w k lo hi b4 b5 b6 b7)(hne:b4≠B∧b5≠B∧b6≠B∧b7≠B)(j:Nat)(v:Value):Caps (w.setCell ⟨B,j,none⟩ v) k lo hi b4 b5 b6 b7:=by
 obtain⟨s,hs,h7⟩:=h.c7
 have hsz:(w.setCell ⟨B,j,none⟩ v).heap.size=w.heap.size:=by simp[World.setCell]
 have far:∀b,b≠B→(w.setCell ⟨B,j,none⟩ v).cell? ⟨b,0,none⟩=w.cell? ⟨b,0,none⟩:=fun b hb=>World.cell?_setCell_far w ⟨B,j,none⟩ ⟨b,0,none⟩ v (fun e=>hb e.symm)
 exact⟨(far _ hne.1).trans h.c4,(far _ hne.2.1).trans h.c5,(far _ hne.2.2.1).trans h.c6,⟨s,hs,(far _ hne.2.2.2).trans h7⟩,by rw[hsz];exact h.l4,by rw[hsz];exact h.l5,by rw[hsz];exact h.l6,by rw[hsz];exact h.l7⟩
theorem Caps.alloc{w:World}{k:Nat}{lo hi:Int}{b4 b5 b6 b7:Nat}(h:Caps w k lo hi b4 b5 b6 b7)(o:Obj):Caps (w.alloc o) k lo hi b4 b5 b6 b7:=h.below ((Below.refl _ _).alloc (lR' _) o) (lR' _)
set_option maxRecDepth 100000 in
set_option maxHeartbeats 1600000 in
theorem bytes_any(w:World):Calls Tryz.prog 182 #[] w fun e w'=>∃v0 v1 v2 v3 v4,e= .returned (.agg #[v0,v1,v2,v3,v4])∧FieldAt w' .bytes v0 v1 v2 v3 v4∧Below w.heap.size w w':=by
 go_enter Tryz.func182,Tryz.ntmps182;go_wp2_with (go_at_call 135;refine(small_fn _ _ _ _ _ (by decide) (by decide)).mono ?_;rintro e w1 ⟨v0,v1,v2,v3,v4,rfl,⟨hk,b4,b5,b6,b7,hc,rfl,rfl,rfl,rfl,rfl⟩,hb1⟩;unfold f1 f2 f3 f4 f5 P0;have hs1:=hb1.size;have hr:=res_cell hb1 (by simp);have hrf:=res_frozen hb1 (by simp);have hlt:w.heap.size<w1.heap.size:=(by simp at hs1;omega));have hne:=hc.ne (hr 0);refine bodyPost_ret (v:=.agg #[fn0 197,f2 b4,f3 b4,f4 b7 b4,f5 b7 b4]) (by simp[results,Tryz.results182,go_sem,f2,f3,f4,f5,P0,fn0,hr,hlt]) rfl ⟨_,_,_,_,_,rfl,⟨b4,b5,b6,b7,(((((hc.set hne _ _).set hne _ _).set hne _ _).set hne _ _).set hne _ _).alloc _,rfl,rfl,rfl,rfl,rfl⟩, ?_⟩
 exact((((((((Below.refl _ _).alloc (lR' _) _).trans (hb1.mono (by simp))).setCell (lR' _) _).setCell (lR' _) _).setCell (lR' _) _).setCell (lR' _) _).setCell (lR' _) _).alloc (by simp;omega) _
set_option maxRecDepth 100000 in
set_option maxHeartbeats 1600000 in
theorem skip_any(w:World):Calls Tryz.prog 184 #[] w fun e w'=>∃v0 v1 v2 v3 v4,e= .returned (.agg #[v0,v1,v2,v3,v4])∧FieldAt w' .skip v0 v1 v2 v3 v4∧Below w.heap.size w w':=by
 go_enter Tryz.func184,Tryz.ntmps184;go_wp2_with (go_at_call 135;refine(small_fn _ _ _ _ _ (by decide) (by decide)).mono ?_;rintro e w1 ⟨v0,v1,v2,v3,v4,rfl,⟨hk,b4,b5,b6,b7,hc,rfl,rfl,rfl,rfl,rfl⟩,hb1⟩;unfold f1 f2 f3 f4 f5 P0;have hs1:=hb1.size;have hr:=res_cell hb1 (by simp);have hrf:=res_frozen hb1 (by simp);have hlt:w.heap.size<w1.heap.size:=(by simp at hs1;omega));have hne:=hc.ne (hr 0);refine bodyPost_ret (v:=.agg #[f1 b4 b5 b6,fn0 201,fn0 202,f4 b7 b4,f5 b7 b4]) (by simp[results,Tryz.results184,go_sem,f1,f4,f5,P0,fn0,hr,hlt]) rfl ⟨_,_,_,_,_,rfl,⟨b4,b5,b6,b7,(((((hc.set hne _ _).set hne _ _).set hne _ _).set hne _ _).set hne _ _).alloc _,rfl,rfl,rfl,rfl,rfl⟩, ?_⟩
 exact((((((((Below.refl _ _).alloc (lR' _) _).trans (hb1.mono (by simp))).setCell (lR' _) _).setCell (lR' _) _).setCell (lR' _) _).setCell (lR' _) _).setCell (lR' _) _).alloc (by simp;omega) _
set_option maxRecDepth 100000 in
set_option maxHeartbeats 1600000 in
theorem sign_any(w:World):Calls Tryz.prog 183 #[] w fun e w'=>∃v0 v1 v2 v3 v4,e= .returned (.agg #[v0,v1,v2,v3,v4])∧FieldAt w' .sign v0 v1 v2 v3 v4∧Below w.heap.size w w':=by
 go_enter Tryz.func183,Tryz.ntmps183;go_wp2_with (go_at_call 138;refine(number_any _).mono ?_;rintro e w1 ⟨v0,v1,v2,v3,v4,rfl,⟨rfl,rfl,rfl,rfl,rfl⟩,hb1⟩;unfold fn0;have hs1:=hb1.size;have hr:=res_cell hb1 (by simp);have hrf:=res_frozen hb1 (by simp);have hlt:w.heap.size<w1.heap.size:=(by simp at hs1;omega));refine bodyPost_ret (v:=.agg #[fn0 198,fn0 173,fn0 175,fn0 199,fn0 200]) (by simp[results,Tryz.results183,go_sem,fn0,hr,hlt]) rfl ⟨_,_,_,_,_,rfl,⟨rfl,rfl,rfl,rfl,rfl⟩, ?_⟩;exact((((((((Below.refl _ _).alloc (lR' _) _).trans (hb1.mono (by simp))).setCell (lR' _) _).setCell (lR' _) _).setCell (lR' _) _).setCell (lR' _) _).setCell (lR' _) _).alloc (by simp;omega) _
theorem FieldAt.drew{w:World}{fk:FK}{v0 v1 v2 v3 v4:Value}(h:FieldAt w fk v0 v1 v2 v3 v4):FieldAt w.drew fk v0 v1 v2 v3 v4:=h.below (N:=w.heap.size) (Below.refl _ _).drew (lR' _)
theorem FieldAt.into{w w1:World}{N:Nat}{fk:FK}{v0 v1 v2 v3 v4:Value}{o:Obj}(h:FieldAt w fk v0 v1 v2 v3 v4)(hb:Below N (w.alloc o).drew w1)(hN:(w.alloc o).heap.size≤N):FieldAt w1 fk v0 v1 v2 v3 v4:=(h.alloc o).drew.below hb hN
theorem below_into{w w1:World}{N:Nat}{o:Obj}(hb:Below N (w.alloc o).drew w1)(hN:w.heap.size≤N):Below w.heap.size w w1:=(((Below.refl _ _).alloc (lR' _) o).drew).trans (hb.mono hN)
set_option maxRecDepth 100000 in
set_option maxHeartbeats 1600000 in
theorem shiftM_any(T:Value)(w:World)(hT:TableAt w T):Calls Tryz.prog 142 #[T] w fun e w'=>∃ao cap,e= .returned (.slice ao 2 cap)∧FieldsAt w' ao 2 [reg,.small 2 0 63]∧Below w.heap.size w w':=by
 obtain⟨v0,v1,v2,v3,v4,v5,v6,v7,v8,v9,v10,v11,v12,v13,v14,v15,v16,v17,v18,v19,rfl,hF1,hF2,hF3,hF4⟩:=hT;have o1:=hF1.one;have o2:=hF2.one;have o3:=hF3.one;have o4:=hF4.one;go_enter Tryz.func142,Tryz.ntmps142;go_wp2_with fail
 go_region_with (go_at_call 135;refine(small_fn _ _ _ _ _ (by decide) (by decide)).mono ?_;rintro e w1 ⟨u0,u1,u2,u3,u4,rfl,hG,hb1⟩;have ou:=hG.one;have hc:=box_cell hb1 (by simp);have hs1:=hb1.size;have hs0:w.heap.size<w1.heap.size:=Nat.lt_of_lt_of_le (by simp) hs1;have hl:=below_into hb1 (by simp);have hs:=hl.size)
 all_goals go_wp2
 all_goals go_ret
 all_goals exact⟨_,_,rfl,fields_top (by exact⟨(hF1.into hb1 (lR' _)).alloc _,hG.alloc _,trivial⟩) rfl rfl,hl.alloc (by omega) _⟩
set_option maxRecDepth 100000 in
set_option maxHeartbeats 1600000 in
theorem widthM_any(T:Value)(w:World)(hT:TableAt w T):Calls Tryz.prog 145 #[T] w fun e w'=>∃ao cap,e= .returned (.slice ao 2 cap)∧FieldsAt w' ao 2 [reg,.small 2 1 64]∧Below w.heap.size w w':=by
 obtain⟨v0,v1,v2,v3,v4,v5,v6,v7,v8,v9,v10,v11,v12,v13,v14,v15,v16,v17,v18,v19,rfl,hF1,hF2,hF3,hF4⟩:=hT;have o1:=hF1.one;have o2:=hF2.one;have o3:=hF3.one;have o4:=hF4.one;go_enter Tryz.func145,Tryz.ntmps145;go_wp2_with fail
 go_region_with (go_at_call 135;refine(small_fn _ _ _ _ _ (by decide) (by decide)).mono ?_;rintro e w1 ⟨u0,u1,u2,u3,u4,rfl,hG,hb1⟩;have ou:=hG.one;have hc:=box_cell hb1 (by simp);have hs1:=hb1.size;have hs0:w.heap.size<w1.heap.size:=Nat.lt_of_lt_of_le (by simp) hs1;have hl:=below_into hb1 (by simp);have hs:=hl.size)
 all_goals go_wp2
 all_goals go_ret
 all_goals exact⟨_,_,rfl,fields_top (by exact⟨(hF1.into hb1 (lR' _)).alloc _,hG.alloc _,trivial⟩) rfl rfl,hl.alloc (by omega) _⟩
set_option maxRecDepth 100000 in
set_option maxHeartbeats 1600000 in
theorem moveM_any(T:Value)(w:World)(hT:TableAt w T):Calls Tryz.prog 143 #[T] w fun e w'=>∃ao cap,e= .returned (.slice ao 3 cap)∧FieldsAt w' ao 3 [reg,.small 1 0 7,.bytes]∧Below w.heap.size w w':=by
 obtain⟨v0,v1,v2,v3,v4,v5,v6,v7,v8,v9,v10,v11,v12,v13,v14,v15,v16,v17,v18,v19,rfl,hF1,hF2,hF3,hF4⟩:=hT;have o1:=hF1.one;have o2:=hF2.one;have o3:=hF3.one;have o4:=hF4.one;go_enter Tryz.func143,Tryz.ntmps143;go_wp2_with fail
 go_region_with (first | (go_at_call 135;refine(small_fn _ _ _ _ _ (by decide) (by decide)).mono ?_;rintro e w1 ⟨u0,u1,u2,u3,u4,rfl,hG,hb1⟩;have ou:=hG.one;have hc:=box_cell hb1 (by simp);have hs1:=hb1.size;have hs0:w.heap.size<w1.heap.size:=Nat.lt_of_lt_of_le (by simp) hs1;have hl:=below_into hb1 (by simp);have hs:=hl.size) | (go_at_call 182;refine(bytes_any _).mono ?_;rintro e w2 ⟨u5,u6,u7,u8,u9,rfl,hG2,hb2⟩;have ou2:=hG2.one;have hc2:=fun j=>(hb2.cell (p:=⟨w.heap.size,j,none⟩) hs0).trans (hc j);have hs2:=hb2.size;have hl2:=hl.trans (hb2.mono hs)))
 all_goals have hs3:=hl2.size
 all_goals go_wp2
 all_goals go_ret
 all_goals exact⟨_,_,rfl,fields_top (by exact⟨((hF1.into hb1 (lR' _)).below hb2 (lR' _)).alloc _,(hG.below hb2 (lR' _)).alloc _,hG2.alloc _,trivial⟩) rfl rfl,hl2.alloc (by omega) _⟩
set_option maxRecDepth 100000 in
set_option maxHeartbeats 1600000 in
theorem fitsM_any(T:Value)(w:World)(hT:TableAt w T):Calls Tryz.prog 147 #[T] w fun e w'=>∃ao cap,e= .returned (.slice ao 4 cap)∧FieldsAt w' ao 4 [reg,slot,.small 2 1 64,.sign]∧Below w.heap.size w w':=by
 obtain⟨v0,v1,v2,v3,v4,v5,v6,v7,v8,v9,v10,v11,v12,v13,v14,v15,v16,v17,v18,v19,rfl,hF1,hF2,hF3,hF4⟩:=hT;have o1:=hF1.one;have o2:=hF2.one;have o3:=hF3.one;have o4:=hF4.one;go_enter Tryz.func147,Tryz.ntmps147;go_wp2_with fail
 go_region_with (first | (go_at_call 135;refine(small_fn _ _ _ _ _ (by decide) (by decide)).mono ?_;rintro e w1 ⟨u0,u1,u2,u3,u4,rfl,hG,hb1⟩;have ou:=hG.one;have hc:=box_cell hb1 (by simp);have hs1:=hb1.size;have hs0:w.heap.size<w1.heap.size:=Nat.lt_of_lt_of_le (by simp) hs1;have hl:=below_into hb1 (by simp);have hs:=hl.size) | (go_at_call 183;refine(sign_any _).mono ?_;rintro e w2 ⟨u5,u6,u7,u8,u9,rfl,hG2,hb2⟩;have ou2:=hG2.one;have hc2:=fun j=>(hb2.cell (p:=⟨w.heap.size,j,none⟩) hs0).trans (hc j);have hs2:=hb2.size;have hl2:=hl.trans (hb2.mono hs)))
 all_goals have hs3:=hl2.size
 all_goals go_wp2
 all_goals go_ret
 all_goals exact⟨_,_,rfl,fields_top (by exact⟨((hF1.into hb1 (lR' _)).below hb2 (lR' _)).alloc _,((hF3.into hb1 (lR' _)).below hb2 (lR' _)).alloc _,(hG.below hb2 (lR' _)).alloc _,hG2.alloc _,trivial⟩) rfl rfl,hl2.alloc (by omega) _⟩
set_option maxRecDepth 100000 in
set_option maxHeartbeats 1600000 in
theorem unlessM_any(T:Value)(w:World)(hT:TableAt w T):Calls Tryz.prog 149 #[T] w fun e w'=>∃ao cap,e= .returned (.slice ao 3 cap)∧FieldsAt w' ao 3 [reg,.skip,.number]∧Below w.heap.size w w':=by
 obtain⟨v0,v1,v2,v3,v4,v5,v6,v7,v8,v9,v10,v11,v12,v13,v14,v15,v16,v17,v18,v19,rfl,hF1,hF2,hF3,hF4⟩:=hT;have o1:=hF1.one;have o2:=hF2.one;have o3:=hF3.one;have o4:=hF4.one;go_enter Tryz.func149,Tryz.ntmps149;go_wp2_with fail
 go_region_with (go_at_call 184;refine(skip_any _).mono ?_;rintro e w1 ⟨u0,u1,u2,u3,u4,rfl,hG,hb1⟩;have ou:=hG.one;have hc:=box_cell hb1 (by simp);have hs1:=hb1.size;have hs0:w.heap.size<w1.heap.size:=Nat.lt_of_lt_of_le (by simp) hs1;have hl:=below_into hb1 (by simp);have hs:=hl.size)
 all_goals go_wp2
 all_goals go_ret
 all_goals exact⟨_,_,rfl,fields_top (by exact⟨(hF1.into hb1 (lR' _)).alloc _,hG.alloc _,(hF4.into hb1 (lR' _)).alloc _,trivial⟩) rfl rfl,hl.alloc (by omega) _⟩
end Code
end Go.Proofs.YtljhklblbafjkaaGreatDoor
