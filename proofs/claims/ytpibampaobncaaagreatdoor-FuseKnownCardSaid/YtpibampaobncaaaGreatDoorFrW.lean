/- Plain Lean: the moves as the document of fuse reads them are the moves that stand there; the pair that belongs together; a program with a pair joined. -/
import Derived.Test.YtpibampaobncaaaGreatDoorFuX
import Derived.Test.YtpibampaobncaaaGreatDoorBaseQ
import Derived.Test.YtpibampaobncaaaGreatDoorMoreQ
import Derived.Test.YtpibampaobncaaaGreatDoorRowQ
import Derived.StillTailTactics
import Derived.Deep.RegionHeld3
import Derived.Deep.MidRow
import Derived.Laws.ResultCell
import Derived.BigQuiet
open Go.Lib renaming hid→hd'
open Nat renaming le_refl→lR'
namespace Go.Proofs.YtpibampaobncaaaGreatDoor.B
def noI:Ins:=⟨-1,0,0,0,0⟩
def atR(p:List Ins)(i:Nat):Ins:=(p[i]?).getD noI
def shR(x:Ins)(t:Int):Int×Bool:=if x.a=t∧x.op=6 then(x.n,true)else if x.a=t∧x.op=7 then(-x.n,true)else(0,false)
def inR(p:List Ins)(i:Nat):Option Mv:=
 if(atR p i).op=2∧(atR p i).a≠(atR p i).b then
  let s:=shR (atR p (i+1)) (atR p i).a
  let y:=atR p (i+(1+s.2.toNat))
  if y.op=13∧y.a=(atR p i).a then some ⟨true,(atR p i).a,(atR p i).b,8*y.b+s.1,y.b.toNat,(y.b+y.n).toNat,lowBits y.imm.toNat y.n.toNat,s.2.toNat+2⟩else none
 else none
def outR(p:List Ins)(i:Nat):Option Mv:=
 if(atR p i).op=9∧(atR p (i+1)).op=8∧(atR p (i+1)).a=(atR p i).a then
  let s:=shR (atR p (i+2)) (atR p i).a
  let z:=atR p (i+(2+s.2.toNat))
  if z.op=4∧z.b=(atR p i).a∧z.a≠(atR p i).a then some ⟨false,(atR p i).a,z.a,s.1-8*(atR p i).b,(atR p i).b.toNat,((atR p i).b+(atR p i).n).toNat,lowBits (atR p (i+1)).imm.toNat (atR p i).n.toNat,s.2.toNat+3⟩else none
 else none
def moveR(p:List Ins)(i:Nat):Option Mv:=match inR p i with
 | some m=>some m
 | none=>outR p i
theorem atR_drop(p:List Ins)(i k:Nat):atR p (i+k)=((p.drop i)[k]?).getD noI:=by unfold atR;rw[List.getElem?_drop]
theorem moveR_eq(p:List Ins)(i:Nat):moveR p i=readMv (p.drop i):=by
 have h:=atR_drop p i;have h0:atR p i=((p.drop i)[0]?).getD noI:=h 0;unfold moveR inR outR;rw[h0];simp only[h];generalize p.drop i=l;clear h h0
 match l with
 | []=>simp[noI,readMv]
 | [x]=>simp[noI,readMv,shR]
 | x::y::l=>
  rw[readMv_cons]
  by_cases c1:x.op=2∧x.a≠x.b
  ·have c9:¬x.op=9:=by omega
   simp only[List.getElem?_cons_zero,Option.getD_some,List.getElem?_cons_succ,if_pos c1,c9,false_and,if_false];rw[shiftOf_cons];unfold shR
   by_cases d1:y.a=x.a∧y.op=6
   ·simp only[if_pos d1]
    cases l with
    | nil=>simp[noI]
    | cons z r=>by_cases e:z.op=13∧z.a=x.a<;>simp[e]<;>omega
   ·simp only[if_neg d1]
    by_cases d2:y.a=x.a∧y.op=7
    ·simp only[if_pos d2]
     cases l with
     | nil=>simp[noI]
     | cons z r=>by_cases e:z.op=13∧z.a=x.a<;>simp[e]<;>omega
    ·simp only[if_neg d2]
     by_cases e:y.op=13∧y.a=x.a<;>simp[e]<;>omega
  ·simp only[List.getElem?_cons_zero,Option.getD_some,List.getElem?_cons_succ,if_neg c1]
   by_cases c2:x.op=9∧y.op=8∧y.a=x.a
   ·simp only[if_pos c2]
    cases l with
    | nil=>simp[noI,shR,shiftOf]
    | cons z r=>
     rw[shiftOf_cons];unfold shR
     by_cases d1:z.a=x.a∧z.op=6
     ·simp only[if_pos d1]
      cases r with
      | nil=>simp[noI,d1]
      | cons u r=>by_cases e:u.op=4∧u.b=x.a∧u.a≠x.a<;>simp[e,d1]<;>omega
     ·simp only[if_neg d1]
      by_cases d2:z.a=x.a∧z.op=7
      ·simp only[if_pos d2]
       cases r with
       | nil=>simp[noI,d2]
       | cons u r=>by_cases e:u.op=4∧u.b=x.a∧u.a≠x.a<;>simp[e,d2]<;>omega
      ·simp only[if_neg d2]
       by_cases e:z.op=4∧z.b=x.a∧z.a≠x.a<;>simp[e,d1,d2]<;>omega
   ·simp only[if_neg c2]
def togR(p:List Ins)(i:Nat):Option (Mv×Mv):=match readMv (p.drop i)with
 | none=>none
 | some a=>match readMv (p.drop (i+a.size))with
  | none=>none
  | some b=>if sameWay a b=true∧someIn (entd p) (i+1) (i+a.size+b.size)=false∧ndL p (i+a.size+b.size) a.t.toNat=false then some (a,b)else none
theorem togR_eq(p:List Ins)(i:Nat):togR p i=pairAt p i:=by
 unfold togR pairAt nextMv
 cases hm:readMv (p.drop i)with
 | none=>rfl
 | some a=>
  obtain⟨_,_,_,hc⟩:=readMv_inv hm;have hz:=hc.size_ge;simp only
  cases readMv (p.drop (i+a.size))with
  | none=>simp
  | some b=>
   simp only
   by_cases h1:someIn (entd p) (i+1) (i+a.size)=true
   ·rw[if_pos h1,if_neg]
    rintro⟨_,h2,_⟩;rw[someIn_sub (lR' _) (Nat.le_add_right _ _) h2]at h1;cases h1
   ·rw[if_neg h1]
    have h1:someIn (entd p) (i+1) (i+a.size)=false:=by simpa using h1
    have he:someIn (entd p) (i+1) (i+a.size+b.size)=false↔someIn (entd p) (i+a.size) (i+a.size+b.size)=false:=by
     constructor
     ·exact fun h=>someIn_sub (by omega) (lR' _) h
     ·exact fun h=>someIn_or _ h1 h
    simp only[he]
    split<;>rfl
theorem fuseN_more{size slots:Int}:∀(f:Nat) {p:List Ins},p.length≤f→OkTouch p size slots→fuseN (f+1) p=fuseN f p
 | 0,p,hf,_=>by
  obtain rfl:p=[]:=List.length_eq_zero_iff.1 (by omega);rfl
 | f+1,p,hf,ok=>by
  unfold fuseN
  cases ho:once p with
  | none=>rfl
  | some q=>
   obtain⟨i,a,b,hpair,hfirst,rfl⟩:=once_some ho;have:=step_less ok.mem hpair;exact fuseN_more f (by omega) (step_ok ok hpair hfirst)
theorem fuseN_all{size slots:Int}(p:List Ins)(ok:OkTouch p size slots):∀k,fuseN (p.length+k) p=fuse p
 | 0=>rfl
 | k+1=>(fuseN_more (p.length+k) (by omega) ok).trans (fuseN_all p ok k)
theorem fuse_step{size slots:Int}{p q:List Ins}(hm:MayRun p size slots)(h:once p=some q):MayRun q size slots∧q.length<p.length∧fuse p=fuse q:=by
 obtain⟨i,a,b,hpair,hfirst,rfl⟩:=once_some h;have hl:=step_less hm.ok.mem hpair;have hq:=step_may hm hpair hfirst;refine⟨hq,hl, ?_⟩;rw[←fuseN_all _ hq.ok (p.length-1-(put p i (a.size+b.size) (joinM a b).code).length)];unfold fuse;obtain⟨f,hf⟩:∃f,p.length=f+1:=⟨p.length-1,by omega⟩;rw[hf,show(put p i (a.size+b.size) (joinM a b).code).length+(f+1-1-(put p i (a.size+b.size) (joinM a b).code).length)=f by omega]
 show(match once p with | some q=>fuseN f q | none=>p)=_
 rw[h]
theorem fuse_stop{p:List Ins}(h:once p=none):fuse p=p:=fuseN_done _ h
def putTo(p:List Ins)(i L:Nat)(C:List Ins)(k:Nat):List Ins:=
 ((p.take (min k i)).mapIdx fun j x=>fixI i L C.length j x)++(if i<k then C else [])++(p.drop (i+L)).take (k-(i+L))
theorem putTo_zero(p:List Ins)(i L:Nat)(C:List Ins):putTo p i L C 0=[]:=by simp[putTo]
theorem putTo_lt{p:List Ins}{i L:Nat}{C:List Ins}{k:Nat}{x:Ins}(hk:k<i)(hx:p[k]? =some x):putTo p i L C (k+1)=putTo p i L C k++[fixI i L C.length k x]:=by
 have hl:=(List.getElem?_eq_some_iff.1 hx).1;unfold putTo;rw[if_neg (by omega),if_neg (by omega),show k+1-(i+L)=0 by omega,show k-(i+L)=0 by omega,show min (k+1) i=k+1 by omega,show min k i=k by omega]
 have e:p.take (k+1)=p.take k++[x]:=by rw[List.take_add_one,hx];rfl
 rw[e,List.mapIdx_append];simp[List.length_take,show min k p.length=k by omega]
theorem putTo_at{p:List Ins}{i L:Nat}{C:List Ins}(hL:1≤L):putTo p i L C (i+1)=putTo p i L C i++C:=by
 unfold putTo;rw[if_pos (by omega),if_neg (by omega),show i+1-(i+L)=0 by omega,show i-(i+L)=0 by omega,show min (i+1) i=i by omega,show min i i=i by omega];simp
theorem putTo_mid{p:List Ins}{i L:Nat}{C:List Ins}{k:Nat}(h1:i<k)(h2:k<i+L):putTo p i L C (k+1)=putTo p i L C k:=by
 unfold putTo;rw[if_pos (by omega),if_pos (by omega),show k+1-(i+L)=0 by omega,show k-(i+L)=0 by omega,show min (k+1) i=i by omega,show min k i=i by omega]
theorem putTo_ge{p:List Ins}{i L:Nat}{C:List Ins}{k:Nat}{x:Ins}(hL:1≤L)(hk:i+L≤k)(hx:p[k]? =some x):putTo p i L C (k+1)=putTo p i L C k++[x]:=by
 unfold putTo;rw[if_pos (by omega),if_pos (by omega),show min (k+1) i=i by omega,show min k i=i by omega,show k+1-(i+L)=(k-(i+L))+1 by omega]
 have e:(p.drop (i+L)).take (k-(i+L)+1)=(p.drop (i+L)).take (k-(i+L))++[x]:=by
  rw[List.take_add_one,List.getElem?_drop,show i+L+(k-(i+L))=k by omega,hx];rfl
 rw[e];simp only[List.append_assoc]
theorem putTo_end{p:List Ins}{i L:Nat}{C:List Ins}(hL:1≤L)(h:i+L≤p.length):putTo p i L C p.length=put p i L C:=by
 unfold putTo put;have e:(p.drop (i+L)).take (p.length-(i+L))=p.drop (i+L):=List.take_of_length_le (by rw[List.length_drop];exact lR' _);rw[if_pos (by omega),show min p.length i=i by omega,e]
theorem putTo_len{p:List Ins}{i L:Nat}{C:List Ins}(k:Nat):(putTo p i L C k).length≤k+C.length:=by
 unfold putTo;simp only[List.length_append,List.length_mapIdx,List.length_take,List.length_drop]
 split<;>simp<;>omega
end Go.Proofs.YtpibampaobncaaaGreatDoor.B
namespace Go.Proofs.YtpibampaobncaaaGreatDoor
open Go.RowKit
namespace Code
attribute [local go_sem ↓] Go.wp_at_zero Go.wp_at_succ
def insR(x:B.Ins):Value:=.agg #[.int .i64 x.op,.int .i64 x.a,.int .i64 x.b,.int .i64 x.n,.int .u64 x.imm]
def AtOut(x:B.Ins)(w:World)(e:Ending)(w':World):Prop:=e= .returned (insR x)∧Below w.heap.size w w'
set_option maxHeartbeats 1600000 in
theorem at18_any(a:Option Addr)(len cap:Nat)(ps:List B.Ins)(i:Nat)(w:World)(hp:ProgAt w a len ps)(_hl:len≤16384)(hi:i≤20000):
    Calls Tryz.prog 121 #[.slice a len cap,.int .i64 (i:Int)] w (AtOut (B.atR ps i) w):=by
 have i0:(0:Int)≤(i:Int):=by omega
 by_cases hlt:i<len
 ·have i1:(i:Int)<(len:Int):=by omega
  have hx:ps[i]? =some (B.atR ps i):=by
   unfold B.atR;rw[List.getElem?_eq_getElem (by have:=hp.len;omega)];rfl
  generalize B.atR ps i=x at*;obtain⟨b,off,rfl,hbl,hat⟩:=hp.at_ i x hx;obtain⟨h0,h1,h2,h3,h4⟩:=hat.below ((Below.refl w.heap.size w).alloc (lR' _) (.cells #[.int .i64 0,.int .i64 0,.int .i64 0,.int .i64 0,.int .u64 0] 25)) hbl;clear hp hx hat;go_enter Tryz.func121,Tryz.ntmps121;go_wp2_with fail;exact bodyPost_ret (v:=.agg #[.int .i64 x.op,.int .i64 x.a,.int .i64 x.b,.int .i64 x.n,.int .u64 x.imm]) (by simp[results,Tryz.results121,go_sem]) rfl ⟨rfl,(Below.refl _ _).alloc (lR' _) _⟩
 ·have i1:¬(i:Int)<(len:Int):=by omega
  have hx:B.atR ps i=B.noI:=by
   unfold B.atR;rw[List.getElem?_eq_none (by have:=hp.len;omega)];rfl
  rw[hx];clear hp hx;go_enter Tryz.func121,Tryz.ntmps121;go_wp2_with fail;exact bodyPost_ret (v:=.agg #[.int .i64 (-1),.int .i64 0,.int .i64 0,.int .i64 0,.int .u64 0]) (by simp[results,Tryz.results121,go_sem]) rfl ⟨rfl,(Below.refl _ _).alloc (lR' _) _⟩
def ShOut(s:Int×Bool)(w:World)(e:Ending)(w':World):Prop:=e= .returned (.tuple #[.int .i64 s.1,.bool s.2])∧Below w.heap.size w w'
set_option maxHeartbeats 1600000 in
theorem shift18_any(x:B.Ins)(t:Int)(w:World)(hn:0≤x.n∧x.n≤16384):Calls Tryz.prog 122 #[insR x,.int .i64 t] w (ShOut (B.shR x t) w):=by
 obtain⟨o,a,b,n,m⟩:=x;simp only at hn;have hb:Below w.heap.size w (w.alloc (.cells #[.int .i64 o,.int .i64 a,.int .i64 b,.int .i64 n,.int .u64 m] 25)):=(Below.refl _ _).alloc (lR' _) _;unfold insR B.shR
 by_cases ha:a=t
 ·have q1:(a !=t)=false:=by simp[ha]
  by_cases h6:o=6
  ·subst h6
   rw[if_pos ⟨ha,rfl⟩];clear ha;go_enter Tryz.func122,Tryz.ntmps122;go_wp2_with fail;go_ret2;exact⟨rfl,hb⟩
  ·have q6:(o !=6)=true:=by simp[h6]
   rw[if_neg (by simp[h6])]
   by_cases h7:o=7
   ·subst h7
    rw[if_pos ⟨ha,rfl⟩];clear ha;have hw:IntKind.i64.wrap (-n)= -n:=IntWalk.i64_in _ (by omega);go_enter Tryz.func122,Tryz.ntmps122;go_wp2_with fail;go_ret2;exact⟨rfl,hb⟩
   ·have q7:(o !=7)=true:=by simp[h7]
    rw[if_neg (by simp[h7])];clear ha h6 h7;go_enter Tryz.func122,Tryz.ntmps122;go_wp2_with fail;go_ret2;exact⟨rfl,hb⟩
 ·have q1:(a !=t)=true:=by simp[ha]
  rw[if_neg (by simp[ha]),if_neg (by simp[ha])];clear ha;go_enter Tryz.func122,Tryz.ntmps122;go_wp2_with fail;go_ret2;exact⟨rfl,hb⟩
def LowOut(v:Nat)(w:World)(e:Ending)(w':World):Prop:=e= .returned (.int .u64 (v:Int))∧w'=w
theorem low_all{v n:Nat}(hv:v<18446744073709551616)(hn:8≤n):B.lowBits v n=v:=by
 unfold B.lowBits;refine Nat.mod_eq_of_lt (Nat.lt_of_lt_of_le hv ?_);have h:2^64≤2^(8*n):=Nat.pow_le_pow_right (by omega) (by omega);omega
set_option maxHeartbeats 1600000 in
theorem low18_any(v n:Nat)(w:World)(hv:v<18446744073709551616)(h1:1≤n)(h8:n≤8):Calls Tryz.prog 123 #[.int .u64 (v:Int),.int .i64 (n:Int)] w (LowOut (B.lowBits v n) w):=by
 by_cases h:n=8
 ·subst h
  rw[low_all hv (lR' _)];go_enter Tryz.func123,Tryz.ntmps123;go_wp2_with fail;go_ret;exact⟨rfl,rfl⟩
 ·have hn:n=1∨n=2∨n=3∨n=4∨n=5∨n=6∨n=7:=by omega
  have he:∀k:Nat,B.lowBits v n=v&&&(2^(8*n)-1):=fun _=>(Nat.and_two_pow_sub_one_eq_mod v (8*n)).symm
  rw[he 0]
  have key:∀k:Nat,k<18446744073709551616→bits .and .u64 (v:Int) (k:Int)=((v&&&k:Nat):Int):=fun k hk=>u64_and_nat v k hv hk
  clear he h h1 h8
  rcases hn with rfl | rfl | rfl | rfl | rfl | rfl | rfl<;>
  ·go_enter Tryz.func123,Tryz.ntmps123
   go_wp2_with fail;go_ret;exact⟨congrArg (fun x=>Ending.returned (.int .u64 x)) (key _ (by decide)),rfl⟩
end Code
end Go.Proofs.YtpibampaobncaaaGreatDoor
namespace Go.Proofs.YtpibampaobncaaaGreatDoor
open Go.RowKit
namespace Code
attribute [local go_sem ↓] Go.wp_at_zero Go.wp_at_succ
def mrF(m:B.Mv):Array Value:= #[.bool m.inn,.int .i64 m.t,.int .i64 m.v,.int .i64 m.way,.int .i64 (m.b:Int),.int .i64 ((m.e:Int)-(m.b:Int)),.int .u64 (m.bits:Int),.int .i64 (m.size:Int)]
def mr0:Array Value:= #[.bool false,.int .i64 0,.int .i64 0,.int .i64 0,.int .i64 0,.int .i64 0,.int .u64 0,.int .i64 0]
def mrOut:Option B.Mv→Value
 | some m=>.tuple #[.agg (mrF m),.bool true]
 | none=>.tuple #[.agg mr0,.bool false]
def MrRet(o:Option B.Mv)(w:World)(e:Ending)(w':World):Prop:=e= .returned (mrOut o)∧Below w.heap.size w w'
theorem infoM93:(Tryz.prog.info? 93).map (·.size)=some 8:=by kernel_rfl
def R8(w:World)(b:Nat)(C:Array Value):Prop:=CellsAt w b 93 8 (fun j=>C.getD j undef)
theorem get8{C:Array Value}(hC:C.size=8)(j:Nat)(hj:j<8):C[j]? =some (C.getD j undef):=by
 have:j<C.size:=by omega
 rw[Array.getElem?_eq_getElem this,Array.getD_eq_getD_getElem?,Array.getElem?_eq_getElem this];rfl
theorem R8.range{w:World}{b:Nat}{C:Array Value}(h:R8 w b C)(hC:C.size=8):w.rangeAt b 0 C.toList:=by
 refine CellsAt.range h (by simp[hC]) ?_;intro j v hj;rw[Array.getElem?_toList]at hj
 have hlt:j<8:=by have:=(Array.getElem?_eq_some_iff.1 hj).1;omega
 rw[get8 hC j hlt]at hj;rw[Nat.zero_add];exact Option.some.inj hj
theorem R8.new(C:Array Value)(hC:C.size=8)(w:World){X:Nat}(hX:X=w.heap.size):R8 (w.alloc (.cells C 93)) X C:=by
 subst hX;have:=CellsAt.new C 93 w (fun j=>C.getD j undef) (fun j hj=>get8 hC j (by omega));rw[hC]at this;exact this
theorem R8.store{w:World}{b:Nat}{D:Array Value}(h:R8 w b D)(C:Array Value)(hC:C.size=8):R8 (w.setCells b 0 C.toList) b C:=by
 refine CellsAt.congr (CellsAt.setCells C.toList 0 h) (fun j hj=> ?_);rw[if_pos (by simp[hC];omega),Nat.sub_zero,List.getD_eq_getElem?_getD,Array.getElem?_toList,get8 hC j hj];rfl
theorem ret8{fn:Func}{p u:Nat}(hr:fn.results= #[.cell p 93,.tmp u]){tmps:Array Value}{wz:World}{R:Nat}{C:Array Value}(hC:C.size=8){c:Bool}(hp:tmps.getD p undef= .pointer (some ⟨R,0,none⟩))(hu:tmps.getD u undef= .bool c)(hm:R8 wz R C):
    (results fn tmps).run Tryz.prog wz= .ok (.tuple #[.agg C,.bool c]) wz:=by
 rw[results_cell_tmp hr,hp,hu];have hload:=run_loadVar_mid (P:=Tryz.prog) wz R 0 93 C.toList _ (R8.range hm hC) Tryz.underlying93 rfl (by rw[infoM93];simp[hC]);simp only[asAddr,Sem.run_pure,Result.andThen];rw[hload]
theorem below_stored{w w':World}{b:Nat}(h:Below b w w')(hs:b≤w'.heap.size)(vs:List Value):Below b w (w'.setCells b 0 vs):=
 h.grown (grownBy_setCells b vs 0 w') hs (fun k hk=>by have:=Option.some.inj hk;omega)
theorem atR_bd{p:List B.Ins}(hr:∀x∈p,x.right=true)(i:Nat):(-1≤(B.atR p i).op∧(B.atR p i).op≤19)∧(0≤(B.atR p i).a∧(B.atR p i).a≤15)∧(0≤(B.atR p i).b∧(B.atR p i).b≤63)∧(0≤(B.atR p i).n∧(B.atR p i).n≤16384)∧(0≤(B.atR p i).imm∧(B.atR p i).imm≤18446744073709551615):=by
 unfold B.atR
 cases h:p[i]? with
 | none=>simp[B.noI]
 | some x=>
  have:=B.right_bounds (hr x (List.mem_of_getElem? h));simp only[Option.getD_some];omega
theorem blend_bd{x:B.Ins}(h:x.right=true)(h13:x.op=13):1≤x.n∧x.n≤8:=by
 simp[B.Ins.right,h13,B.loN,B.hiN,B.hiB,B.hiImm]at h;omega
theorem load_bd{x:B.Ins}(h:x.right=true)(h9:x.op=9):1≤x.n∧x.n≤8:=by
 simp[B.Ins.right,h9,B.loN,B.hiN,B.hiB,B.hiImm]at h;omega
theorem atR_right{p:List B.Ins}(hr:∀x∈p,x.right=true){i:Nat}(h:(B.atR p i).op≠ -1):(B.atR p i).right=true:=by
 unfold B.atR at h⊢
 cases hx:p[i]? with
 | none=>rw[hx]at h;simp[B.noI]at h
 | some x=>exact hr x (List.mem_of_getElem? hx)
theorem insAt_box(x:B.Ins)(w:World){X:Nat}(hX:X=w.heap.size):InsAt (w.alloc (.cells #[.int .i64 x.op,.int .i64 x.a,.int .i64 x.b,.int .i64 x.n,.int .u64 x.imm] 25)) X 0 x:=by
 subst hX;exact insAt_new x w
set_option maxRecDepth 100000 in
set_option maxHeartbeats 6400000 in
theorem in18_any(a:Option Addr)(len cap:Nat)(ps:List B.Ins)(i:Nat)(w:World)(hp:ProgAt w a len ps)(hr:∀x∈ps,x.right=true)(hl:len≤16384)(hi:i≤17000):
    Calls Tryz.prog 96 #[.slice a len cap,.int .i64 (i:Int)] w (MrRet (B.inR ps i) w):=by
 have HA:Hid (∀(k:Nat) (n:Int) (W:World),n=(k:Int)→k≤20000→Below w.heap.size w W→Calls Tryz.prog 121 #[.slice a len cap,.int .i64 n] W (AtOut (B.atR ps k) W)):=hd' (fun k n W e hk hb=>by subst e;exact at18_any a len cap ps k W (hp.below hb (lR' _)) hl hk);have HBD:=hd' (atR_bd hr);have HR:=hd' hr;obtain⟨ro,hro⟩:∃ro,B.inR ps i=ro:=⟨_,rfl⟩;rw[hro];unfold B.inR at hro;clear hp hr;obtain⟨w1,hw1⟩:∃w1,w.alloc (.cells mr0 93)=w1:=⟨_,rfl⟩;have HB1:Hid (Below w.heap.size w w1):=hd' (by rw[←hw1];exact(Below.refl _ _).alloc (lR' _) _);have HR1:Hid (R8 w1 w.heap.size mr0):=hd' (by rw[←hw1];exact R8.new mr0 rfl w rfl)
 have hz1:w.heap.size<w1.heap.size:=by rw[←hw1];simp
 have hw1':w.alloc (.cells #[.bool false,.int .i64 0,.int .i64 0,.int .i64 0,.int .i64 0,.int .i64 0,.int .u64 0,.int .i64 0] 93)=w1:=hw1;clear hw1;have s1:IntKind.i64.wrap ((i:Int)+1)=(i:Int)+1:=IntWalk.i64_in _ (by omega);have s2:IntKind.i64.wrap ((i:Int)+1+1)=(i:Int)+1+1:=IntWalk.i64_in _ (by omega);have s3:IntKind.i64.wrap ((i:Int)+2)=(i:Int)+2:=IntWalk.i64_in _ (by omega);have s4:IntKind.i64.wrap ((i:Int)+2+1)=(i:Int)+2+1:=IntWalk.i64_in _ (by omega);go_enter Tryz.func96,Tryz.ntmps96
 go_upto_region 1 with fail
 try rw[hw1']
 clear hw1';go_wp2_with fail;refine(HA.out i _ w1 rfl (by omega) HB1.out).mono ?_;rintro e w2 ⟨rfl,hb2⟩;obtain⟨hxo,hxa,hxb,hxn, -⟩:=HBD.out i;have HXR:=hd' (@atR_right ps HR.out i);obtain⟨x,hx⟩:∃x,B.atR ps i=x:=⟨_,rfl⟩;rw[hx]at hxo hxa hxb hxn hro HXR⊢;obtain⟨X3,hX3⟩:∃X,w2.heap.size=X:=⟨_,rfl⟩;obtain⟨v3,hv3⟩:∃v,w2.alloc (.cells #[.int .i64 x.op,.int .i64 x.a,.int .i64 x.b,.int .i64 x.n,.int .u64 x.imm] 25)=v:=⟨_,rfl⟩
 have hi:InsAt v3 X3 0 x:=by rw[←hv3];exact insAt_box x w2 hX3.symm
 have hb':Below w2.heap.size w2 v3:=by rw[←hv3];exact(Below.refl _ _).alloc (lR' _) _
 have hX3l:X3<v3.heap.size:=by rw[←hv3,←hX3];simp
 have hb13:=hb2.trans (hb'.mono hb2.size);have HB3:=hd' (HB1.out.trans (hb13.mono HB1.out.size));have HR3:=hd' (CellsAt.below HR1.out hb13 hz1)
 have hwX:w.heap.size<X3:=by have:=hb2.size;omega
 have HI3:=hd' hi;obtain⟨c0,c1,c2,c3, -⟩:=hi;simp only[Nat.zero_add]at c1 c2 c3;clear hx hb' hb2 hb13 HB1 HR1;unfold insR
 by_cases hA:x.op=2∧x.a≠x.b
 ·rw[if_pos hA]at hro
  have q0:(x.op !=2)=false:=by simp[hA.1]
  have q1:(x.a==x.b)=false:=by simpa using hA.2
  have HAA:=hd' hA;clear hA
  go_upto_region 4 with fail
  have HSB:=hd' (HBD.out (i+1)).2.2.2.1
  go_region_held3 (fun w'=>w'.cell? ⟨X3,1,none⟩=some (.int .i64 x.a))
   (first
    | exact c1
    | exact(hb6.cell (p:=⟨X3,1,none⟩) hX3l).trans c1
    | exact c16
    | exact c17
    | assumption)
   (first
    | (go_at_call 121;refine(HA.out (i+1) _ _ (by omega) (by omega) HB3.out.drew).mono ?_;rintro e w6 ⟨rfl,hb6⟩;unfold insR;have hs6:v3.heap.size≤w6.heap.size:=hb6.size;have c16:w6.cell? ⟨X3,1,none⟩=some (.int .i64 x.a):=(hb6.cell (p:=⟨X3,1,none⟩) hX3l).trans c1)
    | (go_at_call 122;refine(shift18_any _ _ _ HSB.out).mono ?_;rintro e w7 ⟨rfl,hb7⟩;have hs7:w6.heap.size≤w7.heap.size:=hb7.size;have c17:w7.cell? ⟨X3,1,none⟩=some (.int .i64 x.a):=(hb7.cell (p:=⟨X3,1,none⟩) (show X3<_ by omega)).trans c16))
  clear c16;have HB7:=hd' (HB3.out.trans ((((Below.refl _ _).drew.trans hb6).trans (hb7.mono hs6)).mono HB3.out.size));have HR7:=hd' (CellsAt.below HR3.out (((Below.refl v3.heap.size v3).drew.trans hb6).trans (hb7.mono hs6)) (by omega));have HI7:=hd' ((HI3).out.below (((Below.refl v3.heap.size v3).drew.trans hb6).trans (hb7.mono hs6)) hX3l);obtain⟨sh,hsh⟩:∃sh,B.shR (B.atR ps (i+1)) x.a=sh:=⟨_,rfl⟩;simp only[hsh]at hro⊢;obtain⟨sv,sb⟩:=sh
  have HSV:Hid (-16384≤sv∧sv≤16384):=hd' (by
   have h1:=HSB.out;unfold B.shR at hsh;split at hsh
   ·cases hsh;omega
   ·split at hsh<;>(cases hsh;omega))
  clear hsh hb6 hb7
  cases sb with
  | true=>
   simp only[Bool.toNat_true,Nat.reduceAdd]at hro
   go_upto_region 8 with fail
   go_wp2_with fail;refine(HA.out (i+2) _ w7 (by omega) (by omega) HB7.out).mono ?_;rintro e w8 ⟨rfl,hb8⟩;obtain⟨z,hz⟩:∃z,B.atR ps (i+2)=z:=⟨_,rfl⟩;have HZB:=hd' (HBD.out (i+2));have HZR:=hd' (@atR_right ps HR.out (i+2));rw[hz]at hro HZB HZR⊢;obtain⟨X9,hX9⟩:∃X,w8.heap.size=X:=⟨_,rfl⟩;obtain⟨v9,hv9⟩:∃v,w8.alloc (.cells #[.int .i64 z.op,.int .i64 z.a,.int .i64 z.b,.int .i64 z.n,.int .u64 z.imm] 25)=v:=⟨_,rfl⟩
   have hi:InsAt v9 X9 0 z:=by rw[←hv9];exact insAt_box z w8 hX9.symm
   have hb':Below w8.heap.size w8 v9:=by rw[←hv9];exact(Below.refl _ _).alloc (lR' _) _
   have hX9l:X9<v9.heap.size:=by rw[←hv9,←hX9];simp
   have hb79:=hb8.trans (hb'.mono hb8.size);have HB9:=hd' (HB7.out.trans (hb79.mono HB7.out.size));have HR9:=hd' (CellsAt.below HR7.out hb79 (CellsAt.blk HR7.out));have HI9:=hd' (HI7.out.below hb79 (World.block_lt_of_cell? w7 _ HI7.out.c0));obtain⟨g0,g1,g2,g3,g4⟩:=hi;simp only[Nat.zero_add]at g1 g2 g3 g4;clear c0 c1 c2 c3;obtain⟨c0,c1,c2,c3,c4⟩:=HI9.out;simp only[Nat.zero_add]at c1 c2 c3 c4;clear hz hb' hb8 hb79 hX9l;unfold insR
   by_cases hC:z.op=13∧z.a=x.a
   ·rw[if_pos hC]at hro
    have r0:(z.op !=13)=false:=by simp[hC.1]
    have r1:(z.a !=x.a)=false:=by simp[hC.2]
    have hzr:1≤z.n∧z.n≤8:=blend_bd (HZR.out (by omega)) hC.1;obtain⟨-, -,hzb, -,hzi⟩:=HZB.out;have HCC:=hd' hC;clear hC;have t1:IntKind.i64.wrap (8*z.b)=8*z.b:=IntWalk.i64_in _ (by omega);have t2:IntKind.i64.wrap (8*z.b+sv)=8*z.b+sv:=IntWalk.i64_in _ (by have:=HSV.out;omega);have t3:IntKind.i64.wrap ((i:Int)+1+1+1)=(i:Int)+1+1+1:=IntWalk.i64_in _ (by omega)
    have t4:IntKind.i64.wrap ((i:Int)+1+1+1-(i:Int))=3:=by rw[IntWalk.i64_in _ (by omega)];omega
    have HLOW:Hid (∀W,Calls Tryz.prog 123 #[.int .u64 z.imm,.int .i64 z.n] W fun e w'=>e= .returned (.int .u64 (B.lowBits z.imm.toNat z.n.toNat:Int))∧w'=W):=hd' (fun W=>by
     have:=low18_any z.imm.toNat z.n.toNat W (by omega) (by omega) (by omega);unfold LowOut at this;rw[Int.toNat_of_nonneg (by omega),Int.toNat_of_nonneg (by omega)]at this
     exact this)
    obtain⟨C,hC⟩:∃C:Array Value,C= #[.bool true,.int .i64 x.a,.int .i64 x.b,.int .i64 (8*z.b+sv),.int .i64 z.b,.int .i64 z.n,.int .u64 (B.lowBits z.imm.toNat z.n.toNat:Int),.int .i64 3]:=⟨_,rfl⟩
    have HCM:Hid (ro=some ⟨true,x.a,x.b,8*z.b+sv,z.b.toNat,(z.b+z.n).toNat,B.lowBits z.imm.toNat z.n.toNat,3⟩∧C=mrF ⟨true,x.a,x.b,8*z.b+sv,z.b.toNat,(z.b+z.n).toNat,B.lowBits z.imm.toNat z.n.toNat,3⟩):=hd' ⟨hro.symm,by
     rw[hC];unfold mrF;simp only[Int.toNat_of_nonneg (show 0≤z.b by omega),Int.toNat_of_nonneg (show 0≤z.b+z.n by omega)];rw[show z.b+z.n-z.b=z.n by omega]
     rfl⟩
    have HCE:=hd' hC;clear hro hC
    go_upto_region 11 with fail
    refine wp_region_still_tail 23 (by kernel_rfl) (by kernel_rfl) ?_;simp only[List.take_succ_cons,List.take_zero,List.drop_succ_cons,List.drop_zero]
    repeat (first | still_step | still_call (HLOW.out _))
    refine wpStill_nil ?_;change wpList _ _ _ _ _ v9.drew;have HRd:Hid (R8 v9.drew w.heap.size mr0):=hd' (CellsAt.of HR9.out rfl);have HSn:=hd' (below_stored HB9.out.drew HB9.out.drew.size (#[.bool true,.int .i64 x.a,.int .i64 x.b,.int .i64 (8*z.b+sv),.int .i64 z.b,.int .i64 z.n,.int .u64 (B.lowBits z.imm.toNat z.n.toNat:Int),.int .i64 3]:Array Value).toList);have HMn:=hd' (R8.store HRd.out #[.bool true,.int .i64 x.a,.int .i64 x.b,.int .i64 (8*z.b+sv),.int .i64 z.b,.int .i64 z.n,.int .u64 (B.lowBits z.imm.toNat z.n.toNat:Int),.int .i64 3] rfl);have HTn:=hd' (CellsAt.there HRd.out (o:=0) (m:=8) (by omega));have HEN:Hid ((Ending.returned (.tuple #[.agg #[.bool true,.int .i64 x.a,.int .i64 x.b,.int .i64 (8*z.b+sv),.int .i64 z.b,.int .i64 z.n,.int .u64 (B.lowBits z.imm.toNat z.n.toNat:Int),.int .i64 3],.bool true]))= .returned (mrOut ro)):=hd' (by rw[HCM.out.1,←HCE.out,HCM.out.2];rfl)
    go_wp2_with (refine wpList_store_mid (by rfl) 93 _ _ (by rfl) w.heap.size 0 #[.bool true,.int .i64 x.a,.int .i64 x.b,.int .i64 (8*z.b+sv),.int .i64 z.b,.int .i64 z.n,.int .u64 (B.lowBits z.imm.toNat z.n.toNat:Int),.int .i64 3] (by rfl) (by rfl) HTn.out (by rw[infoM93];rfl) (by simp[Value.oneCell']) ?_);exact bodyPost_ret (v:=.tuple #[.agg #[.bool true,.int .i64 x.a,.int .i64 x.b,.int .i64 (8*z.b+sv),.int .i64 z.b,.int .i64 z.n,.int .u64 (B.lowBits z.imm.toNat z.n.toNat:Int),.int .i64 3],.bool true]) (ret8 (p:=4) (u:=5) (by kernel_rfl) rfl (by rfl) (by rfl) HMn.out) rfl ⟨HEN.out,HSn.out⟩
   ·rw[if_neg hC]at hro
    subst hro
    by_cases h0:z.op=13
    ·have r0:(z.op !=13)=false:=by simp[h0]
     have r1:(z.a !=x.a)=true:=by simp;exact fun h=>hC ⟨h0,h⟩
     clear hC h0
     go_upto_region 10 with fail
     have HSn:=hd' (below_stored HB9.out HB9.out.size mr0.toList);have HMn:=hd' (R8.store HR9.out mr0 rfl);have HTn:=hd' (CellsAt.there HR9.out (o:=0) (m:=8) (by omega));go_wp2_with (refine wpList_store_mid (by rfl) 93 _ _ (by rfl) w.heap.size 0 mr0 (by rfl) (by rfl) HTn.out (by rw[infoM93];rfl) (by simp[mr0,Value.oneCell']) ?_);exact bodyPost_ret (v:=.tuple #[.agg mr0,.bool false]) (ret8 (p:=4) (u:=5) (by kernel_rfl) rfl (by rfl) (by rfl) HMn.out) rfl ⟨rfl,HSn.out⟩
    ·have r0:(z.op !=13)=true:=by simp[h0]
     clear hC h0
     go_upto_region 10 with fail
     have HSn:=hd' (below_stored HB9.out HB9.out.size mr0.toList);have HMn:=hd' (R8.store HR9.out mr0 rfl);have HTn:=hd' (CellsAt.there HR9.out (o:=0) (m:=8) (by omega));go_wp2_with (refine wpList_store_mid (by rfl) 93 _ _ (by rfl) w.heap.size 0 mr0 (by rfl) (by rfl) HTn.out (by rw[infoM93];rfl) (by simp[mr0,Value.oneCell']) ?_);exact bodyPost_ret (v:=.tuple #[.agg mr0,.bool false]) (ret8 (p:=4) (u:=5) (by kernel_rfl) rfl (by rfl) (by rfl) HMn.out) rfl ⟨rfl,HSn.out⟩
  | false=>
   simp only[Bool.toNat_false,Nat.add_zero,Nat.reduceAdd]at hro
   go_upto_region 8 with fail
   go_wp2_with fail;refine(HA.out (i+1) _ w7 (by omega) (by omega) HB7.out).mono ?_;rintro e w8 ⟨rfl,hb8⟩;obtain⟨z,hz⟩:∃z,B.atR ps (i+1)=z:=⟨_,rfl⟩;have HZB:=hd' (HBD.out (i+1));have HZR:=hd' (@atR_right ps HR.out (i+1));rw[hz]at hro HZB HZR⊢;obtain⟨X9,hX9⟩:∃X,w8.heap.size=X:=⟨_,rfl⟩;obtain⟨v9,hv9⟩:∃v,w8.alloc (.cells #[.int .i64 z.op,.int .i64 z.a,.int .i64 z.b,.int .i64 z.n,.int .u64 z.imm] 25)=v:=⟨_,rfl⟩
   have hi:InsAt v9 X9 0 z:=by rw[←hv9];exact insAt_box z w8 hX9.symm
   have hb':Below w8.heap.size w8 v9:=by rw[←hv9];exact(Below.refl _ _).alloc (lR' _) _
   have hX9l:X9<v9.heap.size:=by rw[←hv9,←hX9];simp
   have hb79:=hb8.trans (hb'.mono hb8.size);have HB9:=hd' (HB7.out.trans (hb79.mono HB7.out.size));have HR9:=hd' (CellsAt.below HR7.out hb79 (CellsAt.blk HR7.out));have HI9:=hd' (HI7.out.below hb79 (World.block_lt_of_cell? w7 _ HI7.out.c0));obtain⟨g0,g1,g2,g3,g4⟩:=hi;simp only[Nat.zero_add]at g1 g2 g3 g4;clear c0 c1 c2 c3;obtain⟨c0,c1,c2,c3,c4⟩:=HI9.out;simp only[Nat.zero_add]at c1 c2 c3 c4;clear hz hb' hb8 hb79 hX9l;unfold insR
   by_cases hC:z.op=13∧z.a=x.a
   ·rw[if_pos hC]at hro
    have r0:(z.op !=13)=false:=by simp[hC.1]
    have r1:(z.a !=x.a)=false:=by simp[hC.2]
    have hzr:1≤z.n∧z.n≤8:=blend_bd (HZR.out (by omega)) hC.1;obtain⟨-, -,hzb, -,hzi⟩:=HZB.out;have HCC:=hd' hC;clear hC;have t1:IntKind.i64.wrap (8*z.b)=8*z.b:=IntWalk.i64_in _ (by omega);have t2:IntKind.i64.wrap (8*z.b+sv)=8*z.b+sv:=IntWalk.i64_in _ (by have:=HSV.out;omega);have t3:IntKind.i64.wrap ((i:Int)+1+1)=(i:Int)+1+1:=IntWalk.i64_in _ (by omega)
    have t4:IntKind.i64.wrap ((i:Int)+1+1-(i:Int))=2:=by rw[IntWalk.i64_in _ (by omega)];omega
    have HLOW:Hid (∀W,Calls Tryz.prog 123 #[.int .u64 z.imm,.int .i64 z.n] W fun e w'=>e= .returned (.int .u64 (B.lowBits z.imm.toNat z.n.toNat:Int))∧w'=W):=hd' (fun W=>by
     have:=low18_any z.imm.toNat z.n.toNat W (by omega) (by omega) (by omega);unfold LowOut at this;rw[Int.toNat_of_nonneg (by omega),Int.toNat_of_nonneg (by omega)]at this
     exact this)
    obtain⟨C,hC⟩:∃C:Array Value,C= #[.bool true,.int .i64 x.a,.int .i64 x.b,.int .i64 (8*z.b+sv),.int .i64 z.b,.int .i64 z.n,.int .u64 (B.lowBits z.imm.toNat z.n.toNat:Int),.int .i64 2]:=⟨_,rfl⟩
    have HCM:Hid (ro=some ⟨true,x.a,x.b,8*z.b+sv,z.b.toNat,(z.b+z.n).toNat,B.lowBits z.imm.toNat z.n.toNat,2⟩∧C=mrF ⟨true,x.a,x.b,8*z.b+sv,z.b.toNat,(z.b+z.n).toNat,B.lowBits z.imm.toNat z.n.toNat,2⟩):=hd' ⟨hro.symm,by
     rw[hC];unfold mrF;simp only[Int.toNat_of_nonneg (show 0≤z.b by omega),Int.toNat_of_nonneg (show 0≤z.b+z.n by omega)];rw[show z.b+z.n-z.b=z.n by omega]
     rfl⟩
    have HCE:=hd' hC;clear hro hC
    go_upto_region 11 with fail
    refine wp_region_still_tail 23 (by kernel_rfl) (by kernel_rfl) ?_;simp only[List.take_succ_cons,List.take_zero,List.drop_succ_cons,List.drop_zero]
    repeat (first | still_step | still_call (HLOW.out _))
    refine wpStill_nil ?_;change wpList _ _ _ _ _ v9.drew;have HRd:Hid (R8 v9.drew w.heap.size mr0):=hd' (CellsAt.of HR9.out rfl);have HSn:=hd' (below_stored HB9.out.drew HB9.out.drew.size (#[.bool true,.int .i64 x.a,.int .i64 x.b,.int .i64 (8*z.b+sv),.int .i64 z.b,.int .i64 z.n,.int .u64 (B.lowBits z.imm.toNat z.n.toNat:Int),.int .i64 2]:Array Value).toList);have HMn:=hd' (R8.store HRd.out #[.bool true,.int .i64 x.a,.int .i64 x.b,.int .i64 (8*z.b+sv),.int .i64 z.b,.int .i64 z.n,.int .u64 (B.lowBits z.imm.toNat z.n.toNat:Int),.int .i64 2] rfl);have HTn:=hd' (CellsAt.there HRd.out (o:=0) (m:=8) (by omega));have HEN:Hid ((Ending.returned (.tuple #[.agg #[.bool true,.int .i64 x.a,.int .i64 x.b,.int .i64 (8*z.b+sv),.int .i64 z.b,.int .i64 z.n,.int .u64 (B.lowBits z.imm.toNat z.n.toNat:Int),.int .i64 2],.bool true]))= .returned (mrOut ro)):=hd' (by rw[HCM.out.1,←HCE.out,HCM.out.2];rfl)
    go_wp2_with (refine wpList_store_mid (by rfl) 93 _ _ (by rfl) w.heap.size 0 #[.bool true,.int .i64 x.a,.int .i64 x.b,.int .i64 (8*z.b+sv),.int .i64 z.b,.int .i64 z.n,.int .u64 (B.lowBits z.imm.toNat z.n.toNat:Int),.int .i64 2] (by rfl) (by rfl) HTn.out (by rw[infoM93];rfl) (by simp[Value.oneCell']) ?_);exact bodyPost_ret (v:=.tuple #[.agg #[.bool true,.int .i64 x.a,.int .i64 x.b,.int .i64 (8*z.b+sv),.int .i64 z.b,.int .i64 z.n,.int .u64 (B.lowBits z.imm.toNat z.n.toNat:Int),.int .i64 2],.bool true]) (ret8 (p:=4) (u:=5) (by kernel_rfl) rfl (by rfl) (by rfl) HMn.out) rfl ⟨HEN.out,HSn.out⟩
   ·rw[if_neg hC]at hro
    subst hro
    by_cases h0:z.op=13
    ·have r0:(z.op !=13)=false:=by simp[h0]
     have r1:(z.a !=x.a)=true:=by simp;exact fun h=>hC ⟨h0,h⟩
     clear hC h0
     go_upto_region 10 with fail
     have HSn:=hd' (below_stored HB9.out HB9.out.size mr0.toList);have HMn:=hd' (R8.store HR9.out mr0 rfl);have HTn:=hd' (CellsAt.there HR9.out (o:=0) (m:=8) (by omega));go_wp2_with (refine wpList_store_mid (by rfl) 93 _ _ (by rfl) w.heap.size 0 mr0 (by rfl) (by rfl) HTn.out (by rw[infoM93];rfl) (by simp[mr0,Value.oneCell']) ?_);exact bodyPost_ret (v:=.tuple #[.agg mr0,.bool false]) (ret8 (p:=4) (u:=5) (by kernel_rfl) rfl (by rfl) (by rfl) HMn.out) rfl ⟨rfl,HSn.out⟩
    ·have r0:(z.op !=13)=true:=by simp[h0]
     clear hC h0
     go_upto_region 10 with fail
     have HSn:=hd' (below_stored HB9.out HB9.out.size mr0.toList);have HMn:=hd' (R8.store HR9.out mr0 rfl);have HTn:=hd' (CellsAt.there HR9.out (o:=0) (m:=8) (by omega));go_wp2_with (refine wpList_store_mid (by rfl) 93 _ _ (by rfl) w.heap.size 0 mr0 (by rfl) (by rfl) HTn.out (by rw[infoM93];rfl) (by simp[mr0,Value.oneCell']) ?_);exact bodyPost_ret (v:=.tuple #[.agg mr0,.bool false]) (ret8 (p:=4) (u:=5) (by kernel_rfl) rfl (by rfl) (by rfl) HMn.out) rfl ⟨rfl,HSn.out⟩
 ·rw[if_neg hA]at hro
  subst hro
  by_cases h0:x.op=2
  ·have q0:(x.op !=2)=false:=by simp[h0]
   have q1:(x.a==x.b)=true:=by
    by_cases h:x.a=x.b
    ·simpa using h
    ·exact absurd ⟨h0,h⟩ hA
   clear hA h0
   go_upto_region 3 with fail
   have HSn:=hd' (below_stored HB3.out HB3.out.size mr0.toList);have HMn:=hd' (R8.store HR3.out mr0 rfl);have HTn:=hd' (CellsAt.there HR3.out (o:=0) (m:=8) (by omega));go_wp2_with (refine wpList_store_mid (by rfl) 93 _ _ (by rfl) w.heap.size 0 mr0 (by rfl) (by rfl) HTn.out (by rw[infoM93];rfl) (by simp[mr0,Value.oneCell']) ?_);exact bodyPost_ret (v:=.tuple #[.agg mr0,.bool false]) (ret8 (p:=4) (u:=5) (by kernel_rfl) rfl (by rfl) (by rfl) HMn.out) rfl ⟨rfl,HSn.out⟩
  ·have q0:(x.op !=2)=true:=by simp[h0]
   clear hA h0
   go_upto_region 3 with fail
   have HSn:=hd' (below_stored HB3.out HB3.out.size mr0.toList);have HMn:=hd' (R8.store HR3.out mr0 rfl);have HTn:=hd' (CellsAt.there HR3.out (o:=0) (m:=8) (by omega));go_wp2_with (refine wpList_store_mid (by rfl) 93 _ _ (by rfl) w.heap.size 0 mr0 (by rfl) (by rfl) HTn.out (by rw[infoM93];rfl) (by simp[mr0,Value.oneCell']) ?_);exact bodyPost_ret (v:=.tuple #[.agg mr0,.bool false]) (ret8 (p:=4) (u:=5) (by kernel_rfl) rfl (by rfl) (by rfl) HMn.out) rfl ⟨rfl,HSn.out⟩
set_option maxRecDepth 100000 in
set_option maxHeartbeats 6400000 in
theorem out18_any(a:Option Addr)(len cap:Nat)(ps:List B.Ins)(i:Nat)(w:World)(hp:ProgAt w a len ps)(hr:∀x∈ps,x.right=true)(hl:len≤16384)(hi:i≤17000):
    Calls Tryz.prog 97 #[.slice a len cap,.int .i64 (i:Int)] w (MrRet (B.outR ps i) w):=by
 have HA:Hid (∀(k:Nat) (n:Int) (W:World),n=(k:Int)→k≤20000→Below w.heap.size w W→Calls Tryz.prog 121 #[.slice a len cap,.int .i64 n] W (AtOut (B.atR ps k) W)):=hd' (fun k n W e hk hb=>by subst e;exact at18_any a len cap ps k W (hp.below hb (lR' _)) hl hk);have HBD:=hd' (atR_bd hr);have HR:=hd' hr;obtain⟨ro,hro⟩:∃ro,B.outR ps i=ro:=⟨_,rfl⟩;rw[hro];unfold B.outR at hro;clear hp hr;obtain⟨w1,hw1⟩:∃w1,w.alloc (.cells mr0 93)=w1:=⟨_,rfl⟩;have HB1:Hid (Below w.heap.size w w1):=hd' (by rw[←hw1];exact(Below.refl _ _).alloc (lR' _) _);have HR1:Hid (R8 w1 w.heap.size mr0):=hd' (by rw[←hw1];exact R8.new mr0 rfl w rfl)
 have hz1:w.heap.size<w1.heap.size:=by rw[←hw1];simp
 have hw1':w.alloc (.cells #[.bool false,.int .i64 0,.int .i64 0,.int .i64 0,.int .i64 0,.int .i64 0,.int .u64 0,.int .i64 0] 93)=w1:=hw1;clear hw1;have s1:IntKind.i64.wrap ((i:Int)+1)=(i:Int)+1:=IntWalk.i64_in _ (by omega);have s2:IntKind.i64.wrap ((i:Int)+1+1)=(i:Int)+1+1:=IntWalk.i64_in _ (by omega);have s3:IntKind.i64.wrap ((i:Int)+2)=(i:Int)+2:=IntWalk.i64_in _ (by omega);have s4:IntKind.i64.wrap ((i:Int)+2+1)=(i:Int)+2+1:=IntWalk.i64_in _ (by omega);go_enter Tryz.func97,Tryz.ntmps97
 go_upto_region 1 with fail
 try rw[hw1']
 clear hw1';go_wp2_with fail;refine(HA.out i _ w1 rfl (by omega) HB1.out).mono ?_;rintro e w2 ⟨rfl,hb2⟩;obtain⟨hxo,hxa,hxb,hxn, -⟩:=HBD.out i;have HXR:=hd' (@atR_right ps HR.out i);obtain⟨x,hx⟩:∃x,B.atR ps i=x:=⟨_,rfl⟩;rw[hx]at hxo hxa hxb hxn hro HXR⊢;obtain⟨X3,hX3⟩:∃X,w2.heap.size=X:=⟨_,rfl⟩;obtain⟨v3,hv3⟩:∃v,w2.alloc (.cells #[.int .i64 x.op,.int .i64 x.a,.int .i64 x.b,.int .i64 x.n,.int .u64 x.imm] 25)=v:=⟨_,rfl⟩
 have hi:InsAt v3 X3 0 x:=by rw[←hv3];exact insAt_box x w2 hX3.symm
 have hb':Below w2.heap.size w2 v3:=by rw[←hv3];exact(Below.refl _ _).alloc (lR' _) _
 have hX3l:X3<v3.heap.size:=by rw[←hv3,←hX3];simp
 have hb13:=hb2.trans (hb'.mono hb2.size);have HB3:=hd' (HB1.out.trans (hb13.mono HB1.out.size));have HR3:=hd' (CellsAt.below HR1.out hb13 hz1)
 have hwX:w.heap.size<X3:=by have:=hb2.size;omega
 have HI3:=hd' hi;obtain⟨c0,c1,c2,c3, -⟩:=hi;simp only[Nat.zero_add]at c1 c2 c3;clear hx hb' hb2 hb13 HB1 HR1;unfold insR
 go_upto_region 2 with fail
 go_wp2_with fail;refine(HA.out (i+1) _ v3 (by omega) (by omega) HB3.out).mono ?_;rintro e w4 ⟨rfl,hb4⟩;obtain⟨y,hy⟩:∃y,B.atR ps (i+1)=y:=⟨_,rfl⟩;have HYB:=hd' (HBD.out (i+1));have HYR:=hd' (@atR_right ps HR.out (i+1));rw[hy]at hro HYB HYR⊢;obtain⟨X5,hX5⟩:∃X,w4.heap.size=X:=⟨_,rfl⟩;obtain⟨v5,hv5⟩:∃v,w4.alloc (.cells #[.int .i64 y.op,.int .i64 y.a,.int .i64 y.b,.int .i64 y.n,.int .u64 y.imm] 25)=v:=⟨_,rfl⟩
 have hi:InsAt v5 X5 0 y:=by rw[←hv5];exact insAt_box y w4 hX5.symm
 have hb':Below w4.heap.size w4 v5:=by rw[←hv5];exact(Below.refl _ _).alloc (lR' _) _
 have hX5l:X5<v5.heap.size:=by rw[←hv5,←hX5];simp
 have hb35:=hb4.trans (hb'.mono hb4.size);have HB5:=hd' (HB3.out.trans (hb35.mono HB3.out.size));have HR5:=hd' (CellsAt.below HR3.out hb35 (by omega))
 have hX35:X3<v5.heap.size:=by have:=hb35.size;omega
 have HI5:=hd' (HI3.out.below hb35 hX3l);have HJ5:=hd' hi;obtain⟨e0,e1,e2,e3,e4⟩:=hi;simp only[Nat.zero_add]at e1 e2 e3 e4;clear c0 c1 c2 c3;obtain⟨c0,c1,c2,c3, -⟩:=HI5.out;simp only[Nat.zero_add]at c1 c2 c3;clear hy hb' hb4 hb35 HB3 HR3 hX3l;unfold insR
 by_cases hA:x.op=9∧y.op=8∧y.a=x.a
 ·rw[if_pos hA]at hro
  have q0:(x.op !=9)=false:=by simp[hA.1]
  have q1:(y.op !=8)=false:=by simp[hA.2.1]
  have q2:(y.a !=x.a)=false:=by simp[hA.2.2]
  have HAA:=hd' hA;clear hA
  go_upto_region 5 with fail
  have HSB:=hd' (HBD.out (i+2)).2.2.2.1
  go_region_held3 (fun w'=>w'.cell? ⟨X3,1,none⟩=some (.int .i64 x.a))
   (first
    | exact c1
    | exact(hb6.cell (p:=⟨X3,1,none⟩) hX35).trans c1
    | exact c16
    | exact c17
    | assumption)
   (first
    | (go_at_call 121;refine(HA.out (i+2) _ _ (by omega) (by omega) HB5.out.drew).mono ?_;rintro e w6 ⟨rfl,hb6⟩;unfold insR;have hs6:v5.heap.size≤w6.heap.size:=hb6.size;have c16:w6.cell? ⟨X3,1,none⟩=some (.int .i64 x.a):=(hb6.cell (p:=⟨X3,1,none⟩) hX35).trans c1)
    | (go_at_call 122;refine(shift18_any _ _ _ HSB.out).mono ?_;rintro e w7 ⟨rfl,hb7⟩;have hs7:w6.heap.size≤w7.heap.size:=hb7.size;have c17:w7.cell? ⟨X3,1,none⟩=some (.int .i64 x.a):=(hb7.cell (p:=⟨X3,1,none⟩) (show X3<_ by omega)).trans c16))
  clear c16;have HB7:=hd' (HB5.out.trans ((((Below.refl _ _).drew.trans hb6).trans (hb7.mono hs6)).mono HB5.out.size));have HR7:=hd' (CellsAt.below HR5.out (((Below.refl v5.heap.size v5).drew.trans hb6).trans (hb7.mono hs6)) (by omega));have HI7:=hd' ((HI5).out.below (((Below.refl v5.heap.size v5).drew.trans hb6).trans (hb7.mono hs6)) hX35);have HJ7:=hd' (HJ5.out.below (((Below.refl v5.heap.size v5).drew.trans hb6).trans (hb7.mono hs6)) hX5l);obtain⟨sh,hsh⟩:∃sh,B.shR (B.atR ps (i+2)) x.a=sh:=⟨_,rfl⟩;simp only[hsh]at hro⊢;obtain⟨sv,sb⟩:=sh
  have HSV:Hid (-16384≤sv∧sv≤16384):=hd' (by
   have h1:=HSB.out;unfold B.shR at hsh;split at hsh
   ·cases hsh;omega
   ·split at hsh<;>(cases hsh;omega))
  clear hsh hb6 hb7
  cases sb with
  | true=>
   simp only[Bool.toNat_true,Nat.reduceAdd]at hro
   go_upto_region 9 with fail
   go_wp2_with fail;refine(HA.out (i+3) _ w7 (by omega) (by omega) HB7.out).mono ?_;rintro e w8 ⟨rfl,hb8⟩;obtain⟨z,hz⟩:∃z,B.atR ps (i+3)=z:=⟨_,rfl⟩;have HZB:=hd' (HBD.out (i+3));have HZR:=hd' (@atR_right ps HR.out (i+3));rw[hz]at hro HZB HZR⊢;obtain⟨X9,hX9⟩:∃X,w8.heap.size=X:=⟨_,rfl⟩;obtain⟨v9,hv9⟩:∃v,w8.alloc (.cells #[.int .i64 z.op,.int .i64 z.a,.int .i64 z.b,.int .i64 z.n,.int .u64 z.imm] 25)=v:=⟨_,rfl⟩
   have hi:InsAt v9 X9 0 z:=by rw[←hv9];exact insAt_box z w8 hX9.symm
   have hb':Below w8.heap.size w8 v9:=by rw[←hv9];exact(Below.refl _ _).alloc (lR' _) _
   have hX9l:X9<v9.heap.size:=by rw[←hv9,←hX9];simp
   have hb79:=hb8.trans (hb'.mono hb8.size);have HB9:=hd' (HB7.out.trans (hb79.mono HB7.out.size));have HR9:=hd' (CellsAt.below HR7.out hb79 (CellsAt.blk HR7.out));have HI9:=hd' (HI7.out.below hb79 (World.block_lt_of_cell? w7 _ HI7.out.c0));have HJ9:=hd' (HJ7.out.below hb79 (World.block_lt_of_cell? w7 _ HJ7.out.c0));obtain⟨g0,g1,g2,g3,g4⟩:=hi;simp only[Nat.zero_add]at g1 g2 g3 g4;clear c0 c1 c2 c3 e0 e1 e2 e3 e4;obtain⟨c0,c1,c2,c3,c4⟩:=HI9.out;simp only[Nat.zero_add]at c1 c2 c3 c4;obtain⟨e0,e1,e2,e3,e4⟩:=HJ9.out;simp only[Nat.zero_add]at e1 e2 e3 e4;clear hz hb' hb8 hb79 hX9l;unfold insR
   by_cases hC:z.op=4∧z.b=x.a∧z.a≠x.a
   ·rw[if_pos hC]at hro
    have r0:(z.op !=4)=false:=by simp[hC.1]
    have r1:(z.b !=x.a)=false:=by simp[hC.2.1]
    have r2:(z.a==x.a)=false:=by simpa using hC.2.2
    have hzr:1≤x.n∧x.n≤8:=load_bd (HXR.out (by have:=HAA.out.1;omega)) HAA.out.1;obtain⟨-, -, -, -,hzi⟩:=HYB.out;have HCC:=hd' hC;clear hC;have t1:IntKind.i64.wrap (8*x.b)=8*x.b:=IntWalk.i64_in _ (by omega);have t2:IntKind.i64.wrap (sv-8*x.b)=sv-8*x.b:=IntWalk.i64_in _ (by have:=HSV.out;omega);have t3:IntKind.i64.wrap ((i:Int)+2+1+1)=(i:Int)+2+1+1:=IntWalk.i64_in _ (by omega)
    have t4:IntKind.i64.wrap ((i:Int)+2+1+1-(i:Int))=4:=by rw[IntWalk.i64_in _ (by omega)];omega
    have HLOW:Hid (∀W,Calls Tryz.prog 123 #[.int .u64 y.imm,.int .i64 x.n] W fun e w'=>e= .returned (.int .u64 (B.lowBits y.imm.toNat x.n.toNat:Int))∧w'=W):=hd' (fun W=>by
     have:=low18_any y.imm.toNat x.n.toNat W (by omega) (by omega) (by omega);unfold LowOut at this;rw[Int.toNat_of_nonneg (by omega),Int.toNat_of_nonneg (by omega)]at this
     exact this)
    obtain⟨C,hC⟩:∃C:Array Value,C= #[.bool false,.int .i64 x.a,.int .i64 z.a,.int .i64 (sv-8*x.b),.int .i64 x.b,.int .i64 x.n,.int .u64 (B.lowBits y.imm.toNat x.n.toNat:Int),.int .i64 4]:=⟨_,rfl⟩
    have HCM:Hid (ro=some ⟨false,x.a,z.a,sv-8*x.b,x.b.toNat,(x.b+x.n).toNat,B.lowBits y.imm.toNat x.n.toNat,4⟩∧C=mrF ⟨false,x.a,z.a,sv-8*x.b,x.b.toNat,(x.b+x.n).toNat,B.lowBits y.imm.toNat x.n.toNat,4⟩):=hd' ⟨hro.symm,by
     rw[hC];unfold mrF;simp only[Int.toNat_of_nonneg (show 0≤x.b by omega),Int.toNat_of_nonneg (show 0≤x.b+x.n by omega)];rw[show x.b+x.n-x.b=x.n by omega]
     rfl⟩
    have HCE:=hd' hC;clear hro hC
    go_upto_region 12 with fail
    refine wp_region_still_tail 23 (by kernel_rfl) (by kernel_rfl) ?_;simp only[List.take_succ_cons,List.take_zero,List.drop_succ_cons,List.drop_zero]
    repeat (first | still_step | still_call (HLOW.out _))
    refine wpStill_nil ?_;change wpList _ _ _ _ _ v9.drew;have HRd:Hid (R8 v9.drew w.heap.size mr0):=hd' (CellsAt.of HR9.out rfl);have HSn:=hd' (below_stored HB9.out.drew HB9.out.drew.size (#[.bool false,.int .i64 x.a,.int .i64 z.a,.int .i64 (sv-8*x.b),.int .i64 x.b,.int .i64 x.n,.int .u64 (B.lowBits y.imm.toNat x.n.toNat:Int),.int .i64 4]:Array Value).toList);have HMn:=hd' (R8.store HRd.out #[.bool false,.int .i64 x.a,.int .i64 z.a,.int .i64 (sv-8*x.b),.int .i64 x.b,.int .i64 x.n,.int .u64 (B.lowBits y.imm.toNat x.n.toNat:Int),.int .i64 4] rfl);have HTn:=hd' (CellsAt.there HRd.out (o:=0) (m:=8) (by omega));have HEN:Hid ((Ending.returned (.tuple #[.agg #[.bool false,.int .i64 x.a,.int .i64 z.a,.int .i64 (sv-8*x.b),.int .i64 x.b,.int .i64 x.n,.int .u64 (B.lowBits y.imm.toNat x.n.toNat:Int),.int .i64 4],.bool true]))= .returned (mrOut ro)):=hd' (by rw[HCM.out.1,←HCE.out,HCM.out.2];rfl)
    go_wp2_with (refine wpList_store_mid (by rfl) 93 _ _ (by rfl) w.heap.size 0 #[.bool false,.int .i64 x.a,.int .i64 z.a,.int .i64 (sv-8*x.b),.int .i64 x.b,.int .i64 x.n,.int .u64 (B.lowBits y.imm.toNat x.n.toNat:Int),.int .i64 4] (by rfl) (by rfl) HTn.out (by rw[infoM93];rfl) (by simp[Value.oneCell']) ?_);exact bodyPost_ret (v:=.tuple #[.agg #[.bool false,.int .i64 x.a,.int .i64 z.a,.int .i64 (sv-8*x.b),.int .i64 x.b,.int .i64 x.n,.int .u64 (B.lowBits y.imm.toNat x.n.toNat:Int),.int .i64 4],.bool true]) (ret8 (p:=4) (u:=5) (by kernel_rfl) rfl (by rfl) (by rfl) HMn.out) rfl ⟨HEN.out,HSn.out⟩
   ·rw[if_neg hC]at hro
    subst hro
    by_cases h0:z.op=4
    ·have r0:(z.op !=4)=false:=by simp[h0]
     by_cases h1:z.b=x.a
     ·have r1:(z.b !=x.a)=false:=by simp[h1]
      have r2:(z.a==x.a)=true:=by
       by_cases h:z.a=x.a
       ·simpa using h
       ·exact absurd ⟨h0,h1,h⟩ hC
      clear hC h0 h1
      go_upto_region 11 with fail
      have HSn:=hd' (below_stored HB9.out HB9.out.size mr0.toList);have HMn:=hd' (R8.store HR9.out mr0 rfl);have HTn:=hd' (CellsAt.there HR9.out (o:=0) (m:=8) (by omega));go_wp2_with (refine wpList_store_mid (by rfl) 93 _ _ (by rfl) w.heap.size 0 mr0 (by rfl) (by rfl) HTn.out (by rw[infoM93];rfl) (by simp[mr0,Value.oneCell']) ?_);exact bodyPost_ret (v:=.tuple #[.agg mr0,.bool false]) (ret8 (p:=4) (u:=5) (by kernel_rfl) rfl (by rfl) (by rfl) HMn.out) rfl ⟨rfl,HSn.out⟩
     ·have r1:(z.b !=x.a)=true:=by simp[h1]
      clear hC h0 h1
      go_upto_region 11 with fail
      have HSn:=hd' (below_stored HB9.out HB9.out.size mr0.toList);have HMn:=hd' (R8.store HR9.out mr0 rfl);have HTn:=hd' (CellsAt.there HR9.out (o:=0) (m:=8) (by omega));go_wp2_with (refine wpList_store_mid (by rfl) 93 _ _ (by rfl) w.heap.size 0 mr0 (by rfl) (by rfl) HTn.out (by rw[infoM93];rfl) (by simp[mr0,Value.oneCell']) ?_);exact bodyPost_ret (v:=.tuple #[.agg mr0,.bool false]) (ret8 (p:=4) (u:=5) (by kernel_rfl) rfl (by rfl) (by rfl) HMn.out) rfl ⟨rfl,HSn.out⟩
    ·have r0:(z.op !=4)=true:=by simp[h0]
     clear hC h0
     go_upto_region 11 with fail
     have HSn:=hd' (below_stored HB9.out HB9.out.size mr0.toList);have HMn:=hd' (R8.store HR9.out mr0 rfl);have HTn:=hd' (CellsAt.there HR9.out (o:=0) (m:=8) (by omega));go_wp2_with (refine wpList_store_mid (by rfl) 93 _ _ (by rfl) w.heap.size 0 mr0 (by rfl) (by rfl) HTn.out (by rw[infoM93];rfl) (by simp[mr0,Value.oneCell']) ?_);exact bodyPost_ret (v:=.tuple #[.agg mr0,.bool false]) (ret8 (p:=4) (u:=5) (by kernel_rfl) rfl (by rfl) (by rfl) HMn.out) rfl ⟨rfl,HSn.out⟩
  | false=>
   simp only[Bool.toNat_false,Nat.add_zero,Nat.reduceAdd]at hro
   go_upto_region 9 with fail
   go_wp2_with fail;refine(HA.out (i+2) _ w7 (by omega) (by omega) HB7.out).mono ?_;rintro e w8 ⟨rfl,hb8⟩;obtain⟨z,hz⟩:∃z,B.atR ps (i+2)=z:=⟨_,rfl⟩;have HZB:=hd' (HBD.out (i+2));have HZR:=hd' (@atR_right ps HR.out (i+2));rw[hz]at hro HZB HZR⊢;obtain⟨X9,hX9⟩:∃X,w8.heap.size=X:=⟨_,rfl⟩;obtain⟨v9,hv9⟩:∃v,w8.alloc (.cells #[.int .i64 z.op,.int .i64 z.a,.int .i64 z.b,.int .i64 z.n,.int .u64 z.imm] 25)=v:=⟨_,rfl⟩
   have hi:InsAt v9 X9 0 z:=by rw[←hv9];exact insAt_box z w8 hX9.symm
   have hb':Below w8.heap.size w8 v9:=by rw[←hv9];exact(Below.refl _ _).alloc (lR' _) _
   have hX9l:X9<v9.heap.size:=by rw[←hv9,←hX9];simp
   have hb79:=hb8.trans (hb'.mono hb8.size);have HB9:=hd' (HB7.out.trans (hb79.mono HB7.out.size));have HR9:=hd' (CellsAt.below HR7.out hb79 (CellsAt.blk HR7.out));have HI9:=hd' (HI7.out.below hb79 (World.block_lt_of_cell? w7 _ HI7.out.c0));have HJ9:=hd' (HJ7.out.below hb79 (World.block_lt_of_cell? w7 _ HJ7.out.c0));obtain⟨g0,g1,g2,g3,g4⟩:=hi;simp only[Nat.zero_add]at g1 g2 g3 g4;clear c0 c1 c2 c3 e0 e1 e2 e3 e4;obtain⟨c0,c1,c2,c3,c4⟩:=HI9.out;simp only[Nat.zero_add]at c1 c2 c3 c4;obtain⟨e0,e1,e2,e3,e4⟩:=HJ9.out;simp only[Nat.zero_add]at e1 e2 e3 e4;clear hz hb' hb8 hb79 hX9l;unfold insR
   by_cases hC:z.op=4∧z.b=x.a∧z.a≠x.a
   ·rw[if_pos hC]at hro
    have r0:(z.op !=4)=false:=by simp[hC.1]
    have r1:(z.b !=x.a)=false:=by simp[hC.2.1]
    have r2:(z.a==x.a)=false:=by simpa using hC.2.2
    have hzr:1≤x.n∧x.n≤8:=load_bd (HXR.out (by have:=HAA.out.1;omega)) HAA.out.1;obtain⟨-, -, -, -,hzi⟩:=HYB.out;have HCC:=hd' hC;clear hC;have t1:IntKind.i64.wrap (8*x.b)=8*x.b:=IntWalk.i64_in _ (by omega);have t2:IntKind.i64.wrap (sv-8*x.b)=sv-8*x.b:=IntWalk.i64_in _ (by have:=HSV.out;omega);have t3:IntKind.i64.wrap ((i:Int)+2+1)=(i:Int)+2+1:=IntWalk.i64_in _ (by omega)
    have t4:IntKind.i64.wrap ((i:Int)+2+1-(i:Int))=3:=by rw[IntWalk.i64_in _ (by omega)];omega
    have HLOW:Hid (∀W,Calls Tryz.prog 123 #[.int .u64 y.imm,.int .i64 x.n] W fun e w'=>e= .returned (.int .u64 (B.lowBits y.imm.toNat x.n.toNat:Int))∧w'=W):=hd' (fun W=>by
     have:=low18_any y.imm.toNat x.n.toNat W (by omega) (by omega) (by omega);unfold LowOut at this;rw[Int.toNat_of_nonneg (by omega),Int.toNat_of_nonneg (by omega)]at this
     exact this)
    obtain⟨C,hC⟩:∃C:Array Value,C= #[.bool false,.int .i64 x.a,.int .i64 z.a,.int .i64 (sv-8*x.b),.int .i64 x.b,.int .i64 x.n,.int .u64 (B.lowBits y.imm.toNat x.n.toNat:Int),.int .i64 3]:=⟨_,rfl⟩
    have HCM:Hid (ro=some ⟨false,x.a,z.a,sv-8*x.b,x.b.toNat,(x.b+x.n).toNat,B.lowBits y.imm.toNat x.n.toNat,3⟩∧C=mrF ⟨false,x.a,z.a,sv-8*x.b,x.b.toNat,(x.b+x.n).toNat,B.lowBits y.imm.toNat x.n.toNat,3⟩):=hd' ⟨hro.symm,by
     rw[hC];unfold mrF;simp only[Int.toNat_of_nonneg (show 0≤x.b by omega),Int.toNat_of_nonneg (show 0≤x.b+x.n by omega)];rw[show x.b+x.n-x.b=x.n by omega]
     rfl⟩
    have HCE:=hd' hC;clear hro hC
    go_upto_region 12 with fail
    refine wp_region_still_tail 23 (by kernel_rfl) (by kernel_rfl) ?_;simp only[List.take_succ_cons,List.take_zero,List.drop_succ_cons,List.drop_zero]
    repeat (first | still_step | still_call (HLOW.out _))
    refine wpStill_nil ?_;change wpList _ _ _ _ _ v9.drew;have HRd:Hid (R8 v9.drew w.heap.size mr0):=hd' (CellsAt.of HR9.out rfl);have HSn:=hd' (below_stored HB9.out.drew HB9.out.drew.size (#[.bool false,.int .i64 x.a,.int .i64 z.a,.int .i64 (sv-8*x.b),.int .i64 x.b,.int .i64 x.n,.int .u64 (B.lowBits y.imm.toNat x.n.toNat:Int),.int .i64 3]:Array Value).toList);have HMn:=hd' (R8.store HRd.out #[.bool false,.int .i64 x.a,.int .i64 z.a,.int .i64 (sv-8*x.b),.int .i64 x.b,.int .i64 x.n,.int .u64 (B.lowBits y.imm.toNat x.n.toNat:Int),.int .i64 3] rfl);have HTn:=hd' (CellsAt.there HRd.out (o:=0) (m:=8) (by omega));have HEN:Hid ((Ending.returned (.tuple #[.agg #[.bool false,.int .i64 x.a,.int .i64 z.a,.int .i64 (sv-8*x.b),.int .i64 x.b,.int .i64 x.n,.int .u64 (B.lowBits y.imm.toNat x.n.toNat:Int),.int .i64 3],.bool true]))= .returned (mrOut ro)):=hd' (by rw[HCM.out.1,←HCE.out,HCM.out.2];rfl)
    go_wp2_with (refine wpList_store_mid (by rfl) 93 _ _ (by rfl) w.heap.size 0 #[.bool false,.int .i64 x.a,.int .i64 z.a,.int .i64 (sv-8*x.b),.int .i64 x.b,.int .i64 x.n,.int .u64 (B.lowBits y.imm.toNat x.n.toNat:Int),.int .i64 3] (by rfl) (by rfl) HTn.out (by rw[infoM93];rfl) (by simp[Value.oneCell']) ?_);exact bodyPost_ret (v:=.tuple #[.agg #[.bool false,.int .i64 x.a,.int .i64 z.a,.int .i64 (sv-8*x.b),.int .i64 x.b,.int .i64 x.n,.int .u64 (B.lowBits y.imm.toNat x.n.toNat:Int),.int .i64 3],.bool true]) (ret8 (p:=4) (u:=5) (by kernel_rfl) rfl (by rfl) (by rfl) HMn.out) rfl ⟨HEN.out,HSn.out⟩
   ·rw[if_neg hC]at hro
    subst hro
    by_cases h0:z.op=4
    ·have r0:(z.op !=4)=false:=by simp[h0]
     by_cases h1:z.b=x.a
     ·have r1:(z.b !=x.a)=false:=by simp[h1]
      have r2:(z.a==x.a)=true:=by
       by_cases h:z.a=x.a
       ·simpa using h
       ·exact absurd ⟨h0,h1,h⟩ hC
      clear hC h0 h1
      go_upto_region 11 with fail
      have HSn:=hd' (below_stored HB9.out HB9.out.size mr0.toList);have HMn:=hd' (R8.store HR9.out mr0 rfl);have HTn:=hd' (CellsAt.there HR9.out (o:=0) (m:=8) (by omega));go_wp2_with (refine wpList_store_mid (by rfl) 93 _ _ (by rfl) w.heap.size 0 mr0 (by rfl) (by rfl) HTn.out (by rw[infoM93];rfl) (by simp[mr0,Value.oneCell']) ?_);exact bodyPost_ret (v:=.tuple #[.agg mr0,.bool false]) (ret8 (p:=4) (u:=5) (by kernel_rfl) rfl (by rfl) (by rfl) HMn.out) rfl ⟨rfl,HSn.out⟩
     ·have r1:(z.b !=x.a)=true:=by simp[h1]
      clear hC h0 h1
      go_upto_region 11 with fail
      have HSn:=hd' (below_stored HB9.out HB9.out.size mr0.toList);have HMn:=hd' (R8.store HR9.out mr0 rfl);have HTn:=hd' (CellsAt.there HR9.out (o:=0) (m:=8) (by omega));go_wp2_with (refine wpList_store_mid (by rfl) 93 _ _ (by rfl) w.heap.size 0 mr0 (by rfl) (by rfl) HTn.out (by rw[infoM93];rfl) (by simp[mr0,Value.oneCell']) ?_);exact bodyPost_ret (v:=.tuple #[.agg mr0,.bool false]) (ret8 (p:=4) (u:=5) (by kernel_rfl) rfl (by rfl) (by rfl) HMn.out) rfl ⟨rfl,HSn.out⟩
    ·have r0:(z.op !=4)=true:=by simp[h0]
     clear hC h0
     go_upto_region 11 with fail
     have HSn:=hd' (below_stored HB9.out HB9.out.size mr0.toList);have HMn:=hd' (R8.store HR9.out mr0 rfl);have HTn:=hd' (CellsAt.there HR9.out (o:=0) (m:=8) (by omega));go_wp2_with (refine wpList_store_mid (by rfl) 93 _ _ (by rfl) w.heap.size 0 mr0 (by rfl) (by rfl) HTn.out (by rw[infoM93];rfl) (by simp[mr0,Value.oneCell']) ?_);exact bodyPost_ret (v:=.tuple #[.agg mr0,.bool false]) (ret8 (p:=4) (u:=5) (by kernel_rfl) rfl (by rfl) (by rfl) HMn.out) rfl ⟨rfl,HSn.out⟩
 ·rw[if_neg hA]at hro
  subst hro
  by_cases h0:x.op=9
  ·have q0:(x.op !=9)=false:=by simp[h0]
   by_cases h1:y.op=8
   ·have q1:(y.op !=8)=false:=by simp[h1]
    have q2:(y.a !=x.a)=true:=by simp;exact fun h=>hA ⟨h0,h1,h⟩
    clear hA h0 h1
    go_upto_region 4 with fail
    have HSn:=hd' (below_stored HB5.out HB5.out.size mr0.toList);have HMn:=hd' (R8.store HR5.out mr0 rfl);have HTn:=hd' (CellsAt.there HR5.out (o:=0) (m:=8) (by omega));go_wp2_with (refine wpList_store_mid (by rfl) 93 _ _ (by rfl) w.heap.size 0 mr0 (by rfl) (by rfl) HTn.out (by rw[infoM93];rfl) (by simp[mr0,Value.oneCell']) ?_);exact bodyPost_ret (v:=.tuple #[.agg mr0,.bool false]) (ret8 (p:=4) (u:=5) (by kernel_rfl) rfl (by rfl) (by rfl) HMn.out) rfl ⟨rfl,HSn.out⟩
   ·have q1:(y.op !=8)=true:=by simp[h1]
    clear hA h0 h1
    go_upto_region 4 with fail
    have HSn:=hd' (below_stored HB5.out HB5.out.size mr0.toList);have HMn:=hd' (R8.store HR5.out mr0 rfl);have HTn:=hd' (CellsAt.there HR5.out (o:=0) (m:=8) (by omega));go_wp2_with (refine wpList_store_mid (by rfl) 93 _ _ (by rfl) w.heap.size 0 mr0 (by rfl) (by rfl) HTn.out (by rw[infoM93];rfl) (by simp[mr0,Value.oneCell']) ?_);exact bodyPost_ret (v:=.tuple #[.agg mr0,.bool false]) (ret8 (p:=4) (u:=5) (by kernel_rfl) rfl (by rfl) (by rfl) HMn.out) rfl ⟨rfl,HSn.out⟩
  ·have q0:(x.op !=9)=true:=by simp[h0]
   clear hA h0
   go_upto_region 4 with fail
   have HSn:=hd' (below_stored HB5.out HB5.out.size mr0.toList);have HMn:=hd' (R8.store HR5.out mr0 rfl);have HTn:=hd' (CellsAt.there HR5.out (o:=0) (m:=8) (by omega));go_wp2_with (refine wpList_store_mid (by rfl) 93 _ _ (by rfl) w.heap.size 0 mr0 (by rfl) (by rfl) HTn.out (by rw[infoM93];rfl) (by simp[mr0,Value.oneCell']) ?_);exact bodyPost_ret (v:=.tuple #[.agg mr0,.bool false]) (ret8 (p:=4) (u:=5) (by kernel_rfl) rfl (by rfl) (by rfl) HMn.out) rfl ⟨rfl,HSn.out⟩
end Code
end Go.Proofs.YtpibampaobncaaaGreatDoor
namespace Go.Proofs.YtpibampaobncaaaGreatDoor
open Go.RowKit
namespace Code
attribute [local go_sem ↓] Go.wp_at_zero Go.wp_at_succ
theorem R8.cells{w:World}{b:Nat}{c0 c1 c2 c3 c4 c5 c6 c7:Value}(h:R8 w b #[c0,c1,c2,c3,c4,c5,c6,c7]):
    w.cell? ⟨b,0,none⟩=some c0∧w.cell? ⟨b,1,none⟩=some c1∧w.cell? ⟨b,2,none⟩=some c2∧w.cell? ⟨b,3,none⟩=some c3∧w.cell? ⟨b,4,none⟩=some c4∧w.cell? ⟨b,5,none⟩=some c5∧w.cell? ⟨b,6,none⟩=some c6∧w.cell? ⟨b,7,none⟩=some c7:=
 ⟨CellsAt.cell h (j:=0) (by omega),CellsAt.cell h (j:=1) (by omega),CellsAt.cell h (j:=2) (by omega),CellsAt.cell h (j:=3) (by omega),CellsAt.cell h (j:=4) (by omega),CellsAt.cell h (j:=5) (by omega),CellsAt.cell h (j:=6) (by omega),CellsAt.cell h (j:=7) (by omega)⟩
set_option maxRecDepth 100000 in
set_option maxHeartbeats 6400000 in
theorem move18_any(a:Option Addr)(len cap:Nat)(ps:List B.Ins)(i:Nat)(w:World)(hp:ProgAt w a len ps)(hr:∀x∈ps,x.right=true)(hl:len≤16384)(hi:i≤17000):
    Calls Tryz.prog 72 #[.slice a len cap,.int .i64 (i:Int)] w (MrRet (B.readMv (ps.drop i)) w):=by
 rw[←B.moveR_eq];obtain⟨mv,hmv⟩:∃mv,B.moveR ps i=mv:=⟨_,rfl⟩;rw[hmv];unfold B.moveR at hmv;obtain⟨w1,hw1⟩:∃w1,w.alloc (.cells mr0 93)=w1:=⟨_,rfl⟩;have HB1:Hid (Below w.heap.size w w1):=hd' (by rw[←hw1];exact(Below.refl _ _).alloc (lR' _) _);have HR1:Hid (R8 w1 w.heap.size mr0):=hd' (by rw[←hw1];exact R8.new mr0 rfl w rfl)
 have hz1:w.heap.size<w1.heap.size:=by rw[←hw1];simp
 have hw1':w.alloc (.cells #[.bool false,.int .i64 0,.int .i64 0,.int .i64 0,.int .i64 0,.int .i64 0,.int .u64 0,.int .i64 0] 93)=w1:=hw1;have HI:=hd' (in18_any a len cap ps i w1 (hp.below HB1.out (lR' _)) hr hl hi);have HO:Hid (∀W,Below w.heap.size w W→Calls Tryz.prog 97 #[.slice a len cap,.int .i64 (i:Int)] W (MrRet (B.outR ps i) W)):=hd' (fun W hb=>out18_any a len cap ps i W (hp.below hb (lR' _)) hr hl hi);clear hw1 hp hr;obtain⟨ri,hri⟩:∃ri,B.inR ps i=ri:=⟨_,rfl⟩;obtain⟨ro,hro⟩:∃ro,B.outR ps i=ro:=⟨_,rfl⟩;rw[hri]at HI hmv;rw[hro]at HO hmv;clear hri hro;go_enter Tryz.func72,Tryz.ntmps72
 go_upto_region 1 with fail
 try rw[hw1']
 clear hw1'
 cases ri with
 | some m=>
  obtain rfl:some m=mv:=hmv;go_wp2_with fail;refine HI.out.mono ?_;rintro e w2 ⟨rfl,hb2⟩;obtain⟨C,hC⟩:∃C,C=mrF m:=⟨_,rfl⟩;obtain⟨X,hX⟩:∃X,w2.heap.size=X:=⟨_,rfl⟩;obtain⟨w3,hw3⟩:∃w3,w2.alloc (.cells #[.bool m.inn,.int .i64 m.t,.int .i64 m.v,.int .i64 m.way,.int .i64 (m.b:Int),.int .i64 ((m.e:Int)-(m.b:Int)),.int .u64 (m.bits:Int),.int .i64 (m.size:Int)] 93)=w3:=⟨_,rfl⟩
  have hr3:R8 w3 X (mrF m):=by rw[←hw3];exact R8.new (mrF m) rfl w2 hX.symm
  have hb3:Below w2.heap.size w2 w3:=by rw[←hw3];exact(Below.refl _ _).alloc (lR' _) _
  have hb13:=hb2.trans (hb3.mono hb2.size);have HB3:=hd' (HB1.out.trans (hb13.mono HB1.out.size));have HR3:=hd' (CellsAt.below HR1.out hb13 hz1);have HSn:=hd' (below_stored HB3.out HB3.out.size (mrF m).toList);have HMn:=hd' (R8.store HR3.out (mrF m) rfl);have HTn:=hd' (CellsAt.there HR3.out (o:=0) (m:=8) (by omega));obtain⟨c0,c1,c2,c3,c4,c5,c6,c7⟩:=R8.cells hr3;clear hb2 hb3 hb13 hr3 HI HO HB1 HR1 hC;unfold mrOut mrF
  go_upto_region 3 with fail
  go_wp2_with (refine wpList_store_mid (by rfl) 93 _ _ (by rfl) w.heap.size 0 (mrF m) (by rfl) (by rfl) HTn.out (by rw[infoM93];rfl) (by simp[mrF,Value.oneCell']) ?_);exact bodyPost_ret (v:=.tuple #[.agg (mrF m),.bool true]) (ret8 (p:=4) (u:=5) (by kernel_rfl) rfl (by rfl) (by rfl) HMn.out) rfl ⟨rfl,HSn.out⟩
 | none=>
  obtain rfl:ro=mv:=hmv;go_wp2_with fail;refine HI.out.mono ?_;rintro e w2 ⟨rfl,hb2⟩;unfold mrOut mr0
  go_upto_region 4 with fail
  obtain⟨w3,hw3⟩:∃w3,w2.alloc (.cells #[.bool false,.int .i64 0,.int .i64 0,.int .i64 0,.int .i64 0,.int .i64 0,.int .u64 0,.int .i64 0] 93)=w3:=⟨_,rfl⟩
  have hb3:Below w2.heap.size w2 w3:=by rw[←hw3];exact(Below.refl _ _).alloc (lR' _) _
  have hb13:=hb2.trans (hb3.mono hb2.size);have HB3:=hd' (HB1.out.trans (hb13.mono HB1.out.size));have HR3:=hd' (CellsAt.below HR1.out hb13 hz1)
  have hz3:w.heap.size<w3.heap.size:=by have:=hb13.size;omega
  try rw[hw3]
  clear hw3 hb2 hb3 hb13 HI HB1 HR1;go_wp2_with fail;refine(HO.out w3 HB3.out).mono ?_;rintro e w4 ⟨rfl,hb4⟩;have HB4:=hd' (HB3.out.trans (hb4.mono HB3.out.size));have HR4:=hd' (CellsAt.below HR3.out hb4 hz3);have HTn:=hd' (CellsAt.there HR4.out (o:=0) (m:=8) (by omega));clear hb4 HO
  cases ro with
  | some m=>
   have HSn:=hd' (below_stored HB4.out HB4.out.size (mrF m).toList);have HMn:=hd' (R8.store HR4.out (mrF m) rfl);unfold mrOut mrF;go_wp2_with (refine wpList_store_mid (by rfl) 93 _ _ (by rfl) w.heap.size 0 (mrF m) (by rfl) (by rfl) HTn.out (by rw[infoM93];rfl) (by simp[mrF,Value.oneCell']) ?_);exact bodyPost_ret (v:=.tuple #[.agg (mrF m),.bool true]) (ret8 (p:=4) (u:=5) (by kernel_rfl) rfl (by rfl) (by rfl) HMn.out) rfl ⟨rfl,HSn.out⟩
  | none=>
   have HSn:=hd' (below_stored HB4.out HB4.out.size mr0.toList);have HMn:=hd' (R8.store HR4.out mr0 rfl);unfold mrOut mr0;go_wp2_with (refine wpList_store_mid (by rfl) 93 _ _ (by rfl) w.heap.size 0 mr0 (by rfl) (by rfl) HTn.out (by rw[infoM93];rfl) (by simp[mr0,Value.oneCell']) ?_);exact bodyPost_ret (v:=.tuple #[.agg mr0,.bool false]) (ret8 (p:=4) (u:=5) (by kernel_rfl) rfl (by rfl) (by rfl) HMn.out) rfl ⟨rfl,HSn.out⟩
def hitR(x:B.Ins)(k A Z:Nat):Bool:=x.skips&&decide (A≤k+1+x.n.toNat)&&decide (k+1+x.n.toNat<Z)
theorem hit_next{ps:List B.Ins}{k A Z:Nat}{x:B.Ins}(h:∀j y,j<k→ps[j]? =some y→hitR y j A Z=false)(hx:ps[k]? =some x)(hk:hitR x k A Z=false):∀j y,j<k+1→ps[j]? =some y→hitR y j A Z=false:=by
 intro j y hj hy
 by_cases e:j=k
 ·subst e
  rw[hx]at hy;cases hy;exact hk
 ·exact h j y (by omega) hy
set_option maxRecDepth 100000 in
set_option maxHeartbeats 6400000 in
theorem entered18_any(a:Option Addr)(len cap:Nat)(ps:List B.Ins)(A Z:Nat)(w:World)(hp:ProgAt w a len ps)(hr:∀x∈ps,x.right=true)(hl:len≤16384):
    Calls Tryz.prog 73 #[.slice a len cap,.int .i64 (A:Int),.int .i64 (Z:Int)] w (BoolOut (B.someIn (B.entd ps) A Z) w):=by
 have HP:=hd' hp;have HR:=hd' hr;have hle:=hp.len;clear hp hr;go_enter Tryz.func73,Tryz.ntmps73;go_wp2_with fail
 go_loopw [7] (fun i wr=>∃k:Nat,i= .int .i64 k∧k≤len∧(∀j x,j<k→ps[j]? =some x→hitR x j A Z=false)∧wr=w) (fun i _=>len-(intOf i).toNat)
 case atStart=>exact⟨0,rfl,by omega,fun j x h=>by omega,rfl⟩
 case round=>
  obtain⟨k,rfl,hk,he,rfl⟩:=hrel;have HE:=hd' he;clear he
  have k0:(0:Int)≤(k:Int):=by omega
  by_cases hlt:k<len
  ·have k1:(k:Int)<(len:Int):=by omega
   obtain⟨x,hx⟩:∃x,ps[k]? =some x:=⟨_,List.getElem?_eq_getElem (by omega)⟩;obtain⟨b,off,rfl,hbl,hat⟩:=HP.out.at_ k x hx;obtain⟨c0,c1,c2,c3,c4⟩:=hat;have hxr:=B.right_bounds (HR.out x (List.mem_of_getElem? hx));obtain⟨n,hn⟩:∃n:Nat,x.n=n:=⟨x.n.toNat,by omega⟩
   have hn4:n≤16384:=by omega
   have HX:=hd' hx;have HN:=hd' hn;rw[hn]at c3;obtain⟨o,ho⟩:∃o,x.op=o:=⟨_,rfl⟩;rw[ho]at c0;have HOP:=hd' ho;have w1:IntKind.i64.wrap ((k:Int)+1)=(k:Int)+1:=IntWalk.i64_in _ (by omega);have w2:IntKind.i64.wrap ((k:Int)+1+(n:Int))=(k:Int)+1+(n:Int):=IntWalk.i64_in _ (by omega)
   have HH:Hid (hitR x k A Z=(decide (o=18∨o=19)&&decide (A≤k+1+n)&&decide (k+1+n<Z))):=hd' (by
    unfold hitR B.Ins.skips;rw[HN.out,HOP.out]
    simp)
   clear hx hn ho hxr c1 c2 c4 hbl
   by_cases hs:o=18∨o=19
   ·by_cases hA:A≤k+1+n
    ·have qa:(k:Int)+1+(n:Int)≥(A:Int):=by omega
     by_cases hZ:k+1+n<Z
     ·have qz:(k:Int)+1+(n:Int)<(Z:Int):=by omega
      have HY:Hid (hitR x k A Z=true):=hd' (by rw[HH.out];simp[hs,hA,hZ]);have HS:Hid (x.skips=true):=hd' (by have:=HY.out;unfold hitR at this;simp only[Bool.and_eq_true]at this;exact this.1.1);have HAZ:Hid (A≤k+1+x.n.toNat∧k+1+x.n.toNat<Z):=hd' (by rw[HN.out];simp;omega);clear HH hA hZ;rcases hs with rfl | rfl
      ·go_wp2_with fail
       go_ret;exact⟨ret_bool ((B.inside_iff ps A Z).2 ⟨k,x,HX.out,HS.out,HAZ.out⟩).symm,Below.refl _ _⟩
      ·go_wp2_with fail
       go_ret;exact⟨ret_bool ((B.inside_iff ps A Z).2 ⟨k,x,HX.out,HS.out,HAZ.out⟩).symm,Below.refl _ _⟩
     ·have qz:¬((k:Int)+1+(n:Int)<(Z:Int)):=by omega
      have HY:Hid (hitR x k A Z=false):=hd' (by rw[HH.out];simp[hZ]);clear HH hA hZ;rcases hs with rfl | rfl
      ·go_wp2_with fail
       go_roundw
       case rel=>exact⟨k+1,by go_num,by omega,hit_next HE.out HX.out HY.out,by trivial⟩
       case measure=>simp[intOf];omega
      ·go_wp2_with fail
       go_roundw
       case rel=>exact⟨k+1,by go_num,by omega,hit_next HE.out HX.out HY.out,by trivial⟩
       case measure=>simp[intOf];omega
    ·have qa:¬((k:Int)+1+(n:Int)≥(A:Int)):=by omega
     have HY:Hid (hitR x k A Z=false):=hd' (by rw[HH.out];simp[hA]);clear HH hA;rcases hs with rfl | rfl
     ·go_wp2_with fail
      go_roundw
      case rel=>exact⟨k+1,by go_num,by omega,hit_next HE.out HX.out HY.out,by trivial⟩
      case measure=>simp[intOf];omega
     ·go_wp2_with fail
      go_roundw
      case rel=>exact⟨k+1,by go_num,by omega,hit_next HE.out HX.out HY.out,by trivial⟩
      case measure=>simp[intOf];omega
   ·have q18:(o==18)=false:=by simp;omega
    have q19:(o==19)=false:=by simp;omega
    have HY:Hid (hitR x k A Z=false):=hd' (by rw[HH.out];simp[hs]);clear HH hs;go_wp2_with fail;go_roundw
    case rel=>exact⟨k+1,by go_num,by omega,hit_next HE.out HX.out HY.out,by trivial⟩
    case measure=>simp[intOf];omega
  ·obtain rfl:k=len:=by omega
   go_wp2_with fail;go_ret;refine⟨ret_bool ?_,Below.refl _ _⟩
   symm
   rw[Bool.eq_false_iff];intro h;obtain⟨j,x,hj,hs,h1,h2⟩:=(B.inside_iff ps A Z).1 h;have:=HE.out j x (by have:=(List.getElem?_eq_some_iff.1 hj).1;omega) hj;unfold hitR at this;simp[hs,h1,h2]at this
end Code
end Go.Proofs.YtpibampaobncaaaGreatDoor
