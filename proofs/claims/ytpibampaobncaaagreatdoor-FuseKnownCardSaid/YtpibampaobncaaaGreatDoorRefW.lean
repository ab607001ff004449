/- busbarref13: what an instruction touches. -/
import Derived.Test.YtpibampaobncaaaGreatDoorRefV
import Derived.Test.YtpibampaobncaaaGreatDoorPlainQ
import Derived.Deep.QuietTactic
import Derived.BigQuiet
import Derived.StillTailTactics
import Derived.Test.YtpibampaobncaaaGreatDoorRowQ
import Derived.Test.YtpibampaobncaaaGreatDoorVerQ
import Derived.Deep.Cut
import Derived.Deep.DeepCutAuto
import Derived.Deep.CutBlock
import Derived.Deep.RegionHeld3
open Go.Lib renaming hid→hd'
open Nat renaming le_refl→lR'
namespace Go.Proofs.YtpibampaobncaaaGreatDoor
open Go.RowKit
namespace Code
attribute [local go_sem ↓] Go.wp_at_zero Go.wp_at_succ
def refTouch(x:B.Ins)(size slots left:Int):Int:=if x.right then x.touch size slots left else 20
def TouchesOut(x:B.Ins)(size slots left:Int)(w:World)(e:Ending)(w':World):Prop:=e= .returned (.int .i64 (refTouch x size slots left))∧Below w.heap.size w w'
set_option maxRecDepth 100000 in
set_option maxHeartbeats 6400000 in
theorem touches13_any(b off len cap:Nat)(ps:List B.Ins)(i:Nat)(x:B.Ins)(size slots:Int)(w:World)(hx:ps[i]? =some x)(hp:ProgAt w (some ⟨b,off,none⟩) len ps)(hwf:x.Wf)(hl:len≤16384):
    Calls Tryz.prog 53 #[.slice (some ⟨b,off,none⟩) len cap,.int .i64 i,.int .i64 size,.int .i64 slots] w (TouchesOut x size slots ((len:Int)-i-1) w):=by
 obtain⟨b',off',e',hbl,hat⟩:=hp.at_ i _ hx;simp only[Option.some.injEq,Addr.mk.injEq,and_true]at e';obtain⟨rfl,rfl⟩:=e'
 have hi:i<len:=by have:=(List.getElem?_eq_some_iff.1 hx).1;have:=hp.len;omega
 have HC:=hd' (right12_any x hwf);have HI:=hd' (insAt_new x w);have HB0:=hd' ((Below.refl w.heap.size w).alloc (lR' _) (.cells #[.int .i64 x.op,.int .i64 x.a,.int .i64 x.b,.int .i64 x.n,.int .u64 x.imm] 25));obtain⟨h0,h1,h2,h3,h4⟩:=hat
 have HBD:Hid (x.right=true→(0≤x.op∧x.op≤19)∧(0≤x.a∧x.a≤15)∧(0≤x.b∧x.b≤63)∧(0≤x.n∧x.n≤16384)∧(0≤x.imm∧x.imm≤18446744073709551615)):=fun h=>B.right_bounds h
 have i0:(0:Int)≤(i:Int):=by omega
 have i1:(i:Int)<(len:Int):=by omega
 clear hx hp hwf hbl
 cases hr:x.right with
 | false=>
  have HR:=hd' hr;clear hr;go_enter Tryz.func53,Tryz.ntmps53;go_wp2_with fail;refine(HC.out _).mono ?_;rintro e w1 ⟨rfl,hb1⟩;rw[HR.out];have HB1:=hd' (HB0.out.trans (hb1.mono (by simp)));clear hb1;simp only[Bool.false_eq_true,if_false];go_wp2_with fail;go_ret;exact⟨ret_int (by unfold refTouch;rw[HR.out];rfl),HB1.out⟩
 | true=>
  obtain⟨⟨o0,o1⟩,_,⟨b0,b1⟩,⟨n0,n1⟩,_⟩:=HBD.out hr;have ho:=B.op_cases hr;have HR:=hd' hr;clear hr;go_enter Tryz.func53,Tryz.ntmps53;go_wp2_with fail;refine(HC.out _).mono ?_;rintro e w1 ⟨rfl,hb1⟩;rw[HR.out];have HB1:=hd' (HB0.out.trans (hb1.mono (by simp)));obtain⟨k0,k1,k2,k3,k4⟩:=HI.out.below hb1 (by simp);simp only[Nat.zero_add]at k0 k1 k2 k3 k4
  have HT:Hid (refTouch x size slots ((len:Int)-i-1)=x.touch size slots ((len:Int)-i-1)):=by show refTouch _ _ _ _=_;unfold refTouch;rw[HR.out];rfl
  clear hb1 h0 h1 h2 h3 h4;simp only[if_true];obtain⟨o,a,c,n,m⟩:=x;simp only at o0 o1 b0 b1 n0 n1 ho k0 k1 k2 k3 k4;clear o0 o1 HI HB0 HC;rcases ho with rfl | rfl | rfl | rfl | rfl | rfl | rfl | rfl | rfl | rfl | rfl | rfl | rfl | rfl | rfl | rfl | rfl | rfl | rfl | rfl
  all_goals go_wp2_with fail
  all_goals go_ret
  all_goals refine⟨ret_int ?_,HB1.out⟩
  all_goals rw[HT.out]
  all_goals simp[B.Ins.touch]
  all_goals omega
end Code
end Go.Proofs.YtpibampaobncaaaGreatDoor
namespace Go.Proofs.YtpibampaobncaaaGreatDoor
open Go.RowKit
namespace Code
attribute [local go_sem ↓] Go.wp_at_zero Go.wp_at_succ
set_option maxRecDepth 100000 in
set_option maxHeartbeats 6400000 in
theorem reads13_any(x:B.Ins)(hr:x.right=true)(r:Nat)(w:World):
    Calls Tryz.prog 55 #[.agg #[.int .i64 x.op,.int .i64 x.a,.int .i64 x.b,.int .i64 x.n,.int .u64 x.imm],.int .i64 r] w (BoolOut (x.reads r) w):=by
 have ho:=B.op_cases hr;clear hr;obtain⟨o,a,c,n,m⟩:=x;simp only at ho;rcases ho with rfl | rfl | rfl | rfl | rfl | rfl | rfl | rfl | rfl | rfl | rfl | rfl | rfl | rfl | rfl | rfl | rfl | rfl | rfl | rfl
 all_goals go_enter Tryz.func55,Tryz.ntmps55
 all_goals go_wp2_with fail
 all_goals go_ret
 all_goals refine⟨ret_bool ?_,(Below.refl _ _).alloc (lR' _) _⟩
 all_goals simp[B.Ins.reads, *]
set_option maxRecDepth 100000 in
set_option maxHeartbeats 6400000 in
theorem writes13_any(x:B.Ins)(hr:x.right=true)(r:Nat)(w:World):
    Calls Tryz.prog 56 #[.agg #[.int .i64 x.op,.int .i64 x.a,.int .i64 x.b,.int .i64 x.n,.int .u64 x.imm],.int .i64 r] w (BoolOut (x.writes r) w):=by
 have ho:=B.op_cases hr;clear hr;obtain⟨o,a,c,n,m⟩:=x;simp only at ho;rcases ho with rfl | rfl | rfl | rfl | rfl | rfl | rfl | rfl | rfl | rfl | rfl | rfl | rfl | rfl | rfl | rfl | rfl | rfl | rfl | rfl
 all_goals go_enter Tryz.func56,Tryz.ntmps56
 all_goals go_wp2_with fail
 all_goals go_ret
 all_goals refine⟨ret_bool ?_,(Below.refl _ _).alloc (lR' _) _⟩
 all_goals simp[B.Ins.writes,B.Ins.isW, *]
end Code
end Go.Proofs.YtpibampaobncaaaGreatDoor
namespace Go.Proofs.YtpibampaobncaaaGreatDoor
open Go.RowKit
namespace Code
def bitOf(v r:Nat):Bool:=v.testBit r
def stCells(o:Option Nat):List Value:=.bool o.isSome::(List.range 16).map (fun r=>.bool (match o with | none=>false | some v=>bitOf v r))
theorem stCells_length(o:Option Nat):(stCells o).length=17:=by simp[stCells]
def cellsS(n:Nat)(st:Nat→Option Nat):List Value:=(List.range n).flatMap (fun j=>stCells (st j))
theorem cellsS_succ(n:Nat)(st:Nat→Option Nat):cellsS (n+1) st=cellsS n st++stCells (st n):=by
 unfold cellsS;rw[List.range_succ,List.flatMap_append];simp
theorem cellsS_length(st:Nat→Option Nat):∀n,(cellsS n st).length=n*17
 | 0=>rfl
 | n+1=>by rw[cellsS_succ,List.length_append,cellsS_length st n,stCells_length];omega
theorem cellsS_get(st:Nat→Option Nat):∀(n j r:Nat),j<n→r<17→(cellsS n st)[j*17+r]? =(stCells (st j))[r]?
 | 0,_,_,h,_=>by omega
 | n+1,j,r,hj,hr=>by
  rw[cellsS_succ]
  by_cases h:j<n
  ·rw[List.getElem?_append_left (by rw[cellsS_length];omega)]
   exact cellsS_get st n j r h hr
  ·obtain rfl:j=n:=by omega
   rw[List.getElem?_append_right (by rw[cellsS_length];omega),cellsS_length];congr 1;omega
theorem cellsS_congr{st st':Nat→Option Nat}{n:Nat}(h:∀j,j<n→st j=st' j):cellsS n st=cellsS n st':=by
 induction n with
 | zero=>rfl
 | succ n ih=>
  rw[cellsS_succ,cellsS_succ,ih (fun j hj=>h j (by omega)),h n (by omega)]
def StatesAt(w:World)(base g n c:Nat)(st:Nat→Option Nat):Prop:=w.ownsRow base 89 17 (.slice (some ⟨g,0,none⟩) n c) n (cellsS n st)
theorem StatesAt.cell{w:World}{base g n c:Nat}{st:Nat→Option Nat}(h:StatesAt w base g n c st){j r:Nat}(hj:j<n)(hr:r<17):w.cell? ⟨g,j*17+r,none⟩=(stCells (st j))[r]? :=by
 rw[←cellsS_get st n j r hj hr];exact World.ownsRow.cellAt h (j*17+r) (by omega)
theorem StatesAt.there{w:World}{base g n c:Nat}{st:Nat→Option Nat}(h:StatesAt w base g n c st){j:Nat}(hj:j<n):(w.cell? ⟨g,j*17,none⟩)=some (.bool (st j).isSome):=by
 have:=h.cell hj (r:=0) (by omega);rw[Nat.add_zero]at this;rw[this];rfl
theorem StatesAt.written{w:World}{base g n c:Nat}{st:Nat→Option Nat}(h:StatesAt w base g n c st){j v r:Nat}(hj:j<n)(hv:st j=some v)(hr:r<16):w.cell? ⟨g,j*17+(1+r),none⟩=some (.bool (bitOf v r)):=by
 rw[h.cell hj (by omega),hv];unfold stCells;rw[Nat.add_comm 1 r,List.getElem?_cons_succ,List.getElem?_map,List.getElem?_range hr];rfl
def patchV:List Value→Nat→List Value→List Value
 | xs,_,[]=>xs
 | xs,o,v::vs=>patchV (xs.set o v) (o+1) vs
theorem patchV_length:∀(cs xs:List Value) (o:Nat),(patchV xs o cs).length=xs.length
 | [],_,_=>rfl
 | v::vs,xs,o=>by unfold patchV;rw[patchV_length vs];simp
theorem patchV_get:∀(cs xs:List Value) (o i:Nat),i<xs.length→(patchV xs o cs)[i]? =if o≤i∧i<o+cs.length then cs[i-o]? else xs[i]?
 | [],xs,o,i,_=>by unfold patchV;rw[if_neg (by simp<;>omega)]
 | v::vs,xs,o,i,hi=>by
  unfold patchV;rw[patchV_get vs (xs.set o v) (o+1) i (by simpa using hi)]
  by_cases h1:i=o
  ·subst h1
   rw[if_neg (by omega),if_pos (by simp),Nat.sub_self,List.getElem?_set_self hi];rfl
  ·rw[List.getElem?_set_ne (Ne.symm h1)]
   by_cases h2:o+1≤i∧i<o+1+vs.length
   ·rw[if_pos h2,if_pos (by simp;omega),show i-o=(i-(o+1))+1 by omega,List.getElem?_cons_succ]
   ·rw[if_neg h2,if_neg (by simp;omega)]
theorem own_setCells{base E size g n c:Nat}:∀(cs xs:List Value) (o:Nat) (w:World),w.ownsRow base E size (.slice (some ⟨g,0,none⟩) n c) n xs→
    (w.setCells g o cs).ownsRow base E size (.slice (some ⟨g,0,none⟩) n c) n (patchV xs o cs)∧w.grownBy (w.setCells g o cs) (some g)
 | [],xs,o,w,h=>⟨h,World.grownBy.refl _ _⟩
 | v::vs,xs,o,w,h=>by
  have h1:=World.ownsRow.stored h o v;have h2:=own_setCells vs (xs.set o v) (o+1) (w.setCell ⟨g,o,none⟩ v) h1.1;exact⟨h2.1,h1.2.trans h2.2⟩
theorem StatesAt.store{w:World}{base g n c:Nat}{st:Nat→Option Nat}(h:StatesAt w base g n c st)(j:Nat)(v:Nat):
    StatesAt (w.setCells g (j*17) (stCells (some v))) base g n c (fun k=>if k=j then some v else st k)∧w.grownBy (w.setCells g (j*17) (stCells (some v))) (some g):=by
 have h1:=own_setCells (stCells (some v)) _ (j*17) w h;refine⟨?_,h1.2⟩;unfold StatesAt
 have e:cellsS n (fun k=>if k=j then some v else st k)=patchV (cellsS n st) (j*17) (stCells (some v)):=by
  apply List.ext_getElem?;intro i
  by_cases hi:i<n*17
  ·rw[patchV_get _ _ _ _ (by rw[cellsS_length];exact hi),stCells_length]
   obtain⟨q,r,hr,rfl⟩:∃q r,r<17∧i=q*17+r:=⟨i/17,i%17,Nat.mod_lt _ (by omega),by omega⟩
   have hq:q<n:=by omega
   rw[cellsS_get _ n q r hq hr]
   by_cases hqj:q=j
   ·subst hqj
    rw[if_pos rfl,if_pos (by omega),show q*17+r-q*17=r by omega]
   ·rw[if_neg hqj,if_neg (by omega),cellsS_get _ n q r hq hr]
  ·rw[List.getElem?_eq_none (by rw[cellsS_length];omega),List.getElem?_eq_none (by rw[patchV_length,cellsS_length];omega)]
 rw[e];exact h1.1
end Code
end Go.Proofs.YtpibampaobncaaaGreatDoor
namespace Go.Proofs.YtpibampaobncaaaGreatDoor
open Go.RowKit
namespace Code
attribute [local go_sem ↓] Go.wp_at_zero Go.wp_at_succ
def regsV(v:Nat):Array Value:= #[.bool (bitOf v 0),.bool (bitOf v 1),.bool (bitOf v 2),.bool (bitOf v 3),.bool (bitOf v 4),.bool (bitOf v 5),.bool (bitOf v 6),.bool (bitOf v 7),.bool (bitOf v 8),.bool (bitOf v 9),.bool (bitOf v 10),.bool (bitOf v 11),.bool (bitOf v 12),.bool (bitOf v 13),.bool (bitOf v 14),.bool (bitOf v 15)]
def ComeOut(base g n c:Nat)(st:Nat→Option Nat)(w:World)(e:Ending)(w':World):Prop:=e= .returned (.tuple #[])∧StatesAt w' base g n c st∧w.grownBy w' (some g)
set_option maxRecDepth 100000 in
set_option maxHeartbeats 3200000 in
theorem come_far(g n c at_ v:Nat)(base:Nat)(st:Nat→Option Nat)(w:World)(hst:StatesAt w base g n c st)(hat:n≤at_)(_hn:n≤16384)(_ha:at_≤1000000):
    Calls Tryz.prog 54 #[.slice (some ⟨g,0,none⟩) n c,.int .i64 at_,.agg (regsV v)] w (ComeOut base g n c st w):=by
 have HST:=hd' hst
 have q:decide ((n:Int)≤(at_:Int))=true:=by simp;omega
 clear hst;unfold regsV;go_enter Tryz.func54,Tryz.ntmps54;go_wp2_with fail
 go_end0
 exact⟨rfl,HST.out.alloc _,World.grownBy_alloc _ _ _⟩
theorem info89:(Tryz.prog.info? 89).map (·.size)=some 17:=by kernel_rfl
theorem StatesAt.room{w:World}{base g n c:Nat}{st:Nat→Option Nat}(h:StatesAt w base g n c st){j:Nat}(hj:j<n):w.there g (j*17) 17:=by
 intro r hr;refine⟨?_,World.ownsRow.frozenAt h _⟩;rw[h.cell hj hr,List.getElem?_eq_getElem (by rw[stCells_length];exact hr)];rfl
set_option maxRecDepth 100000 in
set_option maxHeartbeats 3200000 in
theorem come_new(g n c at_ v:Nat)(base:Nat)(st:Nat→Option Nat)(w:World)(hst:StatesAt w base g n c st)(hat:at_<n)(_hn:n≤16384)(hs:st at_=none):
    Calls Tryz.prog 54 #[.slice (some ⟨g,0,none⟩) n c,.int .i64 at_,.agg (regsV v)] w (ComeOut base g n c (fun k=>if k=at_ then some v else st k) w):=by
 have q:decide (n≤at_)=false:=by simp;omega
 have hglt:g<w.heap.size:=(hst.lt g rfl).2
 have hgne:¬(g=w.heap.size):=by omega
 have a0:(0:Int)≤(at_:Int):=by omega
 have a1:(at_:Int)<(n:Int):=by omega
 have hst1:StatesAt (w.alloc (.cells (regsV v) 82)) base g n c st:=hst.alloc _;have HST:=hd' hst1;have ht:=hst.there hat;rw[hs]at ht;clear hst hst1 hs;unfold regsV at HST⊢;simp only[Option.isSome]at ht;clear q
 have q:decide (n≤at_)=false:=by simp;omega
 go_enter Tryz.func54,Tryz.ntmps54;go_wp2_with (refine wpList_store_mid (by rfl) _ _ _ (by rfl) g (at_*17) #[.bool true,.bool (bitOf v 0),.bool (bitOf v 1),.bool (bitOf v 2),.bool (bitOf v 3),.bool (bitOf v 4),.bool (bitOf v 5),.bool (bitOf v 6),.bool (bitOf v 7),.bool (bitOf v 8),.bool (bitOf v 9),.bool (bitOf v 10),.bool (bitOf v 11),.bool (bitOf v 12),.bool (bitOf v 13),.bool (bitOf v 14),.bool (bitOf v 15)] (by rfl) (by rfl) (HST.out.room hat) info89 (by simp[Value.oneCell']) ?_)
 go_end0
 have h:=HST.out.store at_ v;exact⟨rfl,h.1,(World.grownBy_alloc w _ _).trans h.2⟩
end Code
end Go.Proofs.YtpibampaobncaaaGreatDoor
namespace Go.Proofs.YtpibampaobncaaaGreatDoor
open Go.RowKit
namespace Code
attribute [local go_sem ↓] Go.wp_at_zero Go.wp_at_succ
theorem own_drew{w:World}{base size n:Nat}{E:TypeId}{v:Value}{xs:List Value}(h:w.ownsRow base E size v n xs):w.drew.ownsRow base E size v n xs:=by
 refine⟨h.1, ?_⟩;rcases h.2 with h2 | ⟨g,cap,cur,rfl,hb,hh,h3⟩
 ·exact .inl h2
 ·exact .inr ⟨g,cap,cur,rfl,hb,hh,h3⟩
theorem grown_drewn{w w':World}{row:Option Nat}(h:w.grownBy w' row):w.grownBy w'.drew row:=⟨h.os,h.tape,h.output,h.size,h.block⟩
structure ComeAt(base g n c at_ u v k:Nat)(st:Nat→Option Nat)(w wr:World):Prop where
 own:∃xs,wr.ownsRow base 89 17 (.slice (some ⟨g,0,none⟩) n c) n xs∧∀i,i<n*17→xs[i]? =if at_*17+1≤i∧i<at_*17+1+k then some (.bool (bitOf u (i-(at_*17+1))&&bitOf v (i-(at_*17+1))))else(cellsS n st)[i]?
 box:wr.heap[w.heap.size]? =some (.cells (regsV v) 82 (0,0))
 grown:w.grownBy wr (some g)
theorem regsV_get(v k:Nat)(h:k<16):(regsV v)[k]? =some (.bool (bitOf v k)):=by
 have:k=0∨k=1∨k=2∨k=3∨k=4∨k=5∨k=6∨k=7∨k=8∨k=9∨k=10∨k=11∨k=12∨k=13∨k=14∨k=15:=by omega
 rcases this with rfl | rfl | rfl | rfl | rfl | rfl | rfl | rfl | rfl | rfl | rfl | rfl | rfl | rfl | rfl | rfl<;>rfl
theorem stCells_get(u r:Nat)(h:r<16):(stCells (some u))[1+r]? =some (.bool (bitOf u r)):=by
 unfold stCells;rw[Nat.add_comm 1 r,List.getElem?_cons_succ,List.getElem?_map,List.getElem?_range h];rfl
theorem ComeAt.cell{base g n c at_ u v k:Nat}{st:Nat→Option Nat}{w wr:World}(h:ComeAt base g n c at_ u v k st w wr)(hs:st at_=some u)(hat:at_<n)(hk:k<16):wr.cell? ⟨g,at_*17+1+k,none⟩=some (.bool (bitOf u k))∧wr.frozen? ⟨g,at_*17+1+k,none⟩=false:=by
 obtain⟨xs,ho,hx⟩:=h.own;refine⟨?_,World.ownsRow.frozenAt ho _⟩;rw[World.ownsRow.cellAt ho _ (by omega),hx _ (by omega),if_neg (by omega),Nat.add_assoc,cellsS_get st n at_ (1+k) hat (by omega),hs,stCells_get u k hk]
theorem ComeAt.next{base g n c at_ u v k:Nat}{st:Nat→Option Nat}{w wr:World}(h:ComeAt base g n c at_ u v k st w wr)(_hat:at_<n)(hk:k<16)(hg:g≠w.heap.size):ComeAt base g n c at_ u v (k+1) st w ((wr.setCell ⟨g,at_*17+1+k,none⟩ (.bool (bitOf u k&&bitOf v k))).drew):=by
 obtain⟨xs,ho,hx⟩:=h.own;have h1:=World.ownsRow.stored ho (at_*17+1+k) (.bool (bitOf u k&&bitOf v k));have hl:xs.length=n*17:=ho.1;refine⟨⟨xs.set (at_*17+1+k) (.bool (bitOf u k&&bitOf v k)),own_drew h1.1,fun i hi=> ?_⟩,(blk_other _ (Ne.symm hg)).trans h.box,h.grown.trans (grown_drewn h1.2)⟩
 by_cases e:i=at_*17+1+k
 ·subst e
  rw[List.getElem?_set_self (by omega),if_pos (by omega),show at_*17+1+k-(at_*17+1)=k by omega]
 ·rw[List.getElem?_set_ne (Ne.symm e),hx i hi]
  by_cases h2:at_*17+1≤i∧i<at_*17+1+k
  ·rw[if_pos h2,if_pos (by omega)]
  ·rw[if_neg h2,if_neg (by omega)]
theorem ComeAt.done{base g n c at_ u v:Nat}{st:Nat→Option Nat}{w wr:World}(h:ComeAt base g n c at_ u v 16 st w wr)(hs:st at_=some u):StatesAt wr base g n c (fun k=>if k=at_ then some (u&&&v)else st k):=by
 obtain⟨xs,ho,hx⟩:=h.own;have hl:xs.length=n*17:=ho.1
 have e:cellsS n (fun k=>if k=at_ then some (u&&&v)else st k)=xs:=by
  apply List.ext_getElem?;intro i
  by_cases hi:i<n*17
  ·rw[hx i hi]
   obtain⟨q,r,hr,rfl⟩:∃q r,r<17∧i=q*17+r:=⟨i/17,i%17,Nat.mod_lt _ (by omega),by omega⟩
   have hq:q<n:=by omega
   rw[cellsS_get _ n q r hq hr]
   by_cases hqa:q=at_
   ·subst hqa
    rw[if_pos rfl]
    by_cases h0:r=0
    ·subst h0
     rw[if_neg (by omega),cellsS_get _ n q 0 hq (by omega),hs];rfl
    ·obtain⟨t,rfl⟩:∃t,r=1+t:=⟨r-1,by omega⟩
     rw[if_pos (by omega),show q*17+(1+t)-(q*17+1)=t by omega,stCells_get _ t (by omega)];unfold bitOf;rw[Nat.testBit_and]
   ·rw[if_neg hqa,if_neg (by omega),cellsS_get _ n q r hq hr]
  ·rw[List.getElem?_eq_none (by rw[cellsS_length];omega),List.getElem?_eq_none (by omega)]
 unfold StatesAt;rw[e];exact ho
set_option maxRecDepth 100000 in
set_option maxHeartbeats 3200000 in
theorem come_more(g n c at_ u v:Nat)(base:Nat)(st:Nat→Option Nat)(w:World)(hst:StatesAt w base g n c st)(hat:at_<n)(_hn:n≤16384)(hs:st at_=some u):
    Calls Tryz.prog 54 #[.slice (some ⟨g,0,none⟩) n c,.int .i64 at_,.agg (regsV v)] w (ComeOut base g n c (fun k=>if k=at_ then some (u&&&v)else st k) w):=by
 have q:decide (n≤at_)=false:=by simp;omega
 have hglt:g<w.heap.size:=(hst.lt g rfl).2
 have hgne:¬(g=w.heap.size):=by omega
 have a0:(0:Int)≤(at_:Int):=by omega
 have a1:(at_:Int)<(n:Int):=by omega
 have ht:=hst.there hat;rw[hs]at ht;simp only[Option.isSome]at ht
 have HC0:Hid (ComeAt base g n c at_ u v 0 st w (w.alloc (.cells (regsV v) 82))):=
  ⟨⟨_,hst.alloc _,fun i hi=>by rw[if_neg (by omega)]⟩,heap_alloc_new w _,World.grownBy_alloc _ _ _⟩
 have HS:=hd' hs;clear hst hs q
 have q:decide (n≤at_)=false:=by simp;omega
 unfold regsV;go_enter Tryz.func54,Tryz.ntmps54;go_wp2_with fail
 go_loopw [6] (fun i wr=>∃k:Nat,k≤16∧i= .int .i64 k∧ComeAt base g n c at_ u v k st w wr) (fun i _=>16-(intOf i).toNat)
 case atStart=>exact⟨0,by omega,rfl,HC0.out⟩
 case round=>
  obtain⟨k,hk,rfl,hc⟩:=hrel;have HCK:=hd' hc;clear ht
  by_cases hlt:k<16
  ·obtain⟨hcell,hfz⟩:=hc.cell HS.out hat hlt
   have hbox:wr.cell? ⟨w.heap.size,k,none⟩=some (.bool (bitOf v k)):=(cell_of_row _ _ _ _ _ _ hc.box).trans (regsV_get v k hlt);have HNX:=hd' (hc.next hat hlt (by omega))
   have k0:(0:Int)≤(k:Int):=by omega
   have k1:(k:Int)<16:=by omega
   clear hc
   cases hu:bitOf u k with
   | true=>
    rw[hu]at hcell HNX;clear hu;go_wp2_with fail
    go_still_tail 18,(by kernel_rfl)
    go_wp2_with fail;go_roundw
    case rel=>exact⟨k+1,by omega,by go_num,by simpa using HNX.out⟩
    case measure=>simp[intOf];omega
   | false=>
    rw[hu]at hcell HNX;clear hu;go_wp2_with fail
    go_still_tail 18,(by kernel_rfl)
    go_wp2_with fail;go_roundw
    case rel=>exact⟨k+1,by omega,by go_num,by simpa using HNX.out⟩
    case measure=>simp[intOf];omega
  ·obtain rfl:k=16:=by omega
   clear hc;go_wp2_with fail
   go_end0
   exact⟨rfl,HCK.out.done HS.out,HCK.out.grown⟩
end Code
end Go.Proofs.YtpibampaobncaaaGreatDoor
namespace Go.Proofs.YtpibampaobncaaaGreatDoor
open Go.RowKit
namespace Code
theorem right_regs{x:B.Ins}(h:x.right=true):0≤x.a∧0≤x.b∧x.a≤15:=by
 have:=B.right_bounds h;omega
theorem after_bit{x:B.Ins}(h:x.right=true)(v r:Nat):bitOf (x.after v) r=(bitOf v r||x.writes r):=by
 obtain⟨ha,_,_⟩:=right_regs h;unfold B.Ins.after B.Ins.writes bitOf
 cases x.isW with
 | false=>simp
 | true=>
  simp only[if_true,Bool.true_and];rw[Nat.testBit_or];congr 1;rw[Nat.testBit_two_pow,Bool.eq_iff_iff];simp;omega
theorem reads_lt{x:B.Ins}(h:x.right=true){r:Nat}(hr:x.reads r=true):r<16:=by
 have hb:=B.right_bounds h
 have hB:(2≤x.op∧x.op≤5)→x.b≤15:=by
  intro ho;unfold B.Ins.right B.hiB at h;simp[ho]at h;omega
 unfold B.Ins.reads at hr;split at hr
 ·have:=hB (by omega);simp at hr;omega
 ·split at hr
  ·have:=hB (by omega);simp at hr;omega
  ·split at hr
   ·simp at hr;omega
   ·cases hr
theorem bad_yes{ps:List B.Ins}{k v r:Nat}{x:B.Ins}(hx:ps[k]? =some x)(hs:B.stAt ps k k=some v)(hr:x.right=true)(h1:x.reads r=true)(h2:bitOf v r=false):B.badAt ps k=true:=by
 obtain⟨ha,hb,_⟩:=right_regs hr;rw[badAt_some hx hs];simp only[Bool.not_eq_true',decide_eq_false_iff_not,B.and_eq_left_iff];intro h;have:=h r (by rw[B.mask_testBit ha hb];exact h1);unfold bitOf at h2;rw[h2]at this;cases this
theorem bad_no{ps:List B.Ins}{k v:Nat}{x:B.Ins}(hx:ps[k]? =some x)(hs:B.stAt ps k k=some v)(hr:x.right=true)(h:∀r,r<16→x.reads r=true→bitOf v r=true):B.badAt ps k=false:=by
 obtain⟨ha,hb,_⟩:=right_regs hr;rw[badAt_some hx hs];simp only[Bool.not_eq_false',decide_eq_true_eq,B.and_eq_left_iff];intro r h1;rw[B.mask_testBit ha hb]at h1;exact h r (reads_lt hr h1) h1
theorem own_keep{w w':World}{base size n:Nat}{E:TypeId}{v:Value}{xs:List Value}(h:w.ownsRow base E size v n xs)(hg:∀k,v.ownBlock=some k→w'.heap[k]? =w.heap[k]?):w'.ownsRow base E size v n xs:=by
 refine⟨h.1, ?_⟩;rcases h.2 with h2 | ⟨g,cap,cur,rfl,hb,hh,h3⟩
 ·exact .inl h2
 ·exact .inr ⟨g,cap,cur,rfl,hb,(hg g rfl).trans hh,h3⟩
theorem StatesAt.congr{w:World}{base g n c:Nat}{st st':Nat→Option Nat}(h:StatesAt w base g n c st)(he:∀j,j<n→st j=st' j):StatesAt w base g n c st':=by
 unfold StatesAt at*;rw[←cellsS_congr he];exact h
theorem StatesAt.below{w w':World}{base g n c:Nat}{st:Nat→Option Nat}(h:StatesAt w base g n c st)(hb:Below w.heap.size w w'):StatesAt w' base g n c st:=
 own_keep h (fun k hk=>hb.block k (h.lt k hk).2)
theorem StatesAt.range{w:World}{base g n c:Nat}{st:Nat→Option Nat}(h:StatesAt w base g n c st){j v:Nat}(hj:j<n)(hv:st j=some v):w.rangeAt g (j*17+1) (regsV v).toList:=by
 intro r u hu;rw[Array.getElem?_toList]at hu
 have hr:r<16:=by
  have:=(Array.getElem?_eq_some_iff.1 hu).1;simpa[regsV]using this
 rw[regsV_get v r hr]at hu;rw[←Option.some.inj hu,show j*17+1+r=j*17+(1+r) by omega];exact h.written hj hv hr
theorem come_is{st:Nat→Option Nat}{at_ v n:Nat}:∀j,j<n→B.come st at_ v j=(if n≤at_ then st j else match st at_ with | none=>(if j=at_ then some v else st j) | some u=>if j=at_ then some (u&&&v)else st j):=by
 intro j hj;unfold B.come
 by_cases h:n≤at_
 ·rw[if_pos h,if_neg (by omega)]
 ·rw[if_neg h]
  cases st at_<;>rfl
theorem come13_any(g n c at_ v:Nat)(base:Nat)(st:Nat→Option Nat)(w:World)(hst:StatesAt w base g n c st)(hn:n≤16384)(ha:at_≤1000000):
    Calls Tryz.prog 54 #[.slice (some ⟨g,0,none⟩) n c,.int .i64 at_,.agg (regsV v)] w (ComeOut base g n c (B.come st at_ v) w):=by
 have key:=come_is (st:=st) (at_:=at_) (v:=v) (n:=n)
 by_cases h:n≤at_
 ·refine(come_far g n c at_ v base st w hst h hn ha).mono ?_
  rintro e w' ⟨rfl,h1,h2⟩;exact⟨rfl,h1.congr (fun j hj=>by rw[key j hj,if_pos h]),h2⟩
 ·cases hs:st at_ with
  | none=>
   refine(come_new g n c at_ v base st w hst (by omega) hn hs).mono ?_;rintro e w' ⟨rfl,h1,h2⟩;exact⟨rfl,h1.congr (fun j hj=>by rw[key j hj,if_neg h,hs]),h2⟩
  | some u=>
   refine(come_more g n c at_ u v base st w hst (by omega) hn hs).mono ?_;rintro e w' ⟨rfl,h1,h2⟩;exact⟨rfl,h1.congr (fun j hj=>by rw[key j hj,if_neg h,hs]),h2⟩
def ComeNil(w:World)(e:Ending)(w':World):Prop:=e= .returned (.tuple #[])∧Below w.heap.size w w'
set_option maxRecDepth 100000 in
set_option maxHeartbeats 3200000 in
theorem come_nil(v:Nat)(w:World):
    Calls Tryz.prog 54 #[.slice none 0 0,.int .i64 0,.agg (regsV v)] w (ComeNil w):=by
 unfold regsV;go_enter Tryz.func54,Tryz.ntmps54;go_wp2_with fail
 go_end0
 exact⟨rfl,(Below.refl _ _).alloc (lR' _) _⟩
def refOut(p:Int×Option Nat):Value:=.tuple #[.int .i64 p.1,.int .i64 (match p.2 with | some i=>(i:Int) | none=> -1)]
def RefProgOut(ps:List B.Ins)(size slots:Int)(w:World)(e:Ending)(w':World):Prop:=e= .returned (refOut (B.program ps size slots))∧Below w.heap.size w w'
theorem infoI89:(Tryz.prog.info? 89).map (fun i=>(i.zero,i.size,i.bytes))=some (some (.agg #[.bool false,.bool false,.bool false,.bool false,.bool false,.bool false,.bool false,.bool false,.bool false,.bool false,.bool false,.bool false,.bool false,.bool false,.bool false,.bool false,.bool false]),17,17):=by kernel_rfl
theorem stCells_none:stCells none=[.bool false,.bool false,.bool false,.bool false,.bool false,.bool false,.bool false,.bool false,.bool false,.bool false,.bool false,.bool false,.bool false,.bool false,.bool false,.bool false,.bool false]:=by rfl
theorem rnext_halt{x:B.Ins}{k v:Nat}{st:Nat→Option Nat}(h:x.op=0):B.stNext x k v st=st:=next_halt h
theorem rnext_skip{x:B.Ins}{k v:Nat}{st:Nat→Option Nat}(h:x.op=18):B.stNext x k v st=B.come st (k+1+x.n.toNat) (x.after v):=by
 unfold B.stNext B.Ins.next B.Ins.skips;simp[h]
theorem rnext_ne{x:B.Ins}{k v:Nat}{st:Nat→Option Nat}(h:x.op=19):B.stNext x k v st=B.come (B.come st (k+1) (x.after v)) (k+1+x.n.toNat) (x.after v):=by
 unfold B.stNext B.Ins.next B.Ins.skips;simp[h]
theorem rnext_on{x:B.Ins}{k v:Nat}{st:Nat→Option Nat}(h0:x.op≠0)(h1:x.op≠18)(h2:x.op≠19):B.stNext x k v st=B.come st (k+1) (x.after v):=by
 unfold B.stNext B.Ins.next B.Ins.skips;simp[h0,h1,h2]
structure MidP(st:Nat→Option Nat)(base g n c X:Nat)(x:B.Ins)(f:Nat→Bool)(w wy:World):Prop where
 st:StatesAt wy base g n c st
 box:InsAt wy X 0 x
 reg:RegsIn wy (X+1) 82 f
 bel:Below w.heap.size w wy
 bX:w.heap.size≤X
 gX:g<X
 bg:w.heap.size≤g
 ltX:X+1<wy.heap.size
theorem MidP.below{st:Nat→Option Nat}{base g n c X:Nat}{x:B.Ins}{f:Nat→Bool}{w wy wz:World}(h:MidP st base g n c X x f w wy)(hb:Below wy.heap.size wy wz):MidP st base g n c X x f w wz:=
 ⟨h.st.below hb,h.box.below hb (by have:=h.ltX;omega),CellsAt.below h.reg hb h.ltX,h.bel.trans (hb.mono h.bel.size),h.bX,h.gX,h.bg,Nat.lt_of_lt_of_le h.ltX hb.size⟩
theorem MidP.congr{st:Nat→Option Nat}{base g n c X:Nat}{x:B.Ins}{f f':Nat→Bool}{w wy:World}(h:MidP st base g n c X x f w wy)(he:∀r,r<16→f r=f' r):MidP st base g n c X x f' w wy:=
 ⟨h.st,h.box,RegsIn.congr h.reg he,h.bel,h.bX,h.gX,h.bg,h.ltX⟩
theorem MidP.set{st:Nat→Option Nat}{base g n c X:Nat}{x:B.Ins}{f:Nat→Bool}{w wy:World}(h:MidP st base g n c X x f w wy)(r:Nat)(v:Bool):MidP st base g n c X x (fun q=>if q=r then v else f q) w (wy.setCell ⟨X+1,r,none⟩ (.bool v)):=by
 have h1:=h.gX;have h2:=h.ltX;have h3:=h.bX;refine⟨own_keep h.st (fun q hq=> ?_),InsAt.other h.box _ _ (by simp),RegsIn.set h.reg r v,h.bel.setCell (by simp;omega) _,h.bX,h.gX,h.bg,by simpa using h2⟩
 have hqg:q=g:=by simpa[Value.ownBlock]using hq.symm
 exact blk_other _ (by simp;omega)
theorem MidP.come{st st':Nat→Option Nat}{base g n c X:Nat}{x:B.Ins}{f:Nat→Bool}{w wy wz:World}(h:MidP st base g n c X x f w wy)(h1:StatesAt wz base g n c st')(hg:wy.grownBy wz (some g)):MidP st' base g n c X x f w wz:=by
 have h2:=h.gX;have h3:=h.ltX;have h4:=h.bg;exact⟨h1,InsAt.grown h.box hg (by omega) (by omega),CellsAt.grown h.reg hg (by omega),h.bel.grown hg h.bel.size (fun k hk=>by have:=Option.some.inj hk;omega),h.bX,h.gX,h.bg,Nat.lt_of_lt_of_le h.ltX hg.size⟩
end Code
end Go.Proofs.YtpibampaobncaaaGreatDoor
namespace Go.Proofs.YtpibampaobncaaaGreatDoor
open Go.RowKit
namespace Code
attribute [local go_sem ↓] Go.wp_at_zero Go.wp_at_succ
theorem infoB82:(Tryz.prog.info? 82).map (·.size)=some 16:=by kernel_rfl
theorem refTouch_step{size slots:Int}{len i:Nat}{x:B.Ins}{r:List B.Ins}(h:refTouch x size slots ((len:Int)-i-1)=0):B.firstTouch size slots len i (x::r)=B.firstTouch size slots len (i+1) r:=by
 unfold refTouch at h;rw[firstTouch_step]
 cases hr:x.right with
 | false=>rw[hr]at h;simp at h
 | true=>
  rw[hr]at h;simp only[if_true]at h;rw[if_neg (by simp),if_neg (by simpa using h)]
theorem refTouch_bad{size slots:Int}{len i:Nat}{x:B.Ins}{r:List B.Ins}(h:refTouch x size slots ((len:Int)-i-1)≠0):B.firstTouch size slots len i (x::r)=some (refTouch x size slots ((len:Int)-i-1),i):=by
 unfold refTouch at*;rw[firstTouch_step]
 cases hr:x.right with
 | false=>rfl
 | true=>
  rw[hr]at h;simp only[if_true]at h;rw[if_neg (by simp),if_pos h];rfl
theorem program_touch'{ps:List B.Ins}{size slots:Int}(h1:¬(size<0∨8<size∨slots<0∨64<slots))(h2:¬16384<ps.length){e:Int}{i:Nat}(h:B.firstTouch size slots ps.length 0 ps=some (e,i)):B.program ps size slots=(e,some i):=by
 unfold B.program;rw[if_neg h1,if_neg h2,h]
theorem program_read'{ps:List B.Ins}{size slots:Int}(h1:¬(size<0∨8<size∨slots<0∨64<slots))(h2:¬16384<ps.length)(h:B.firstTouch size slots ps.length 0 ps=none){i:Nat}(hr:B.firstRead ps=some i):B.program ps size slots=(21,some i):=by
 unfold B.program;rw[if_neg h1,if_neg h2,h,hr]
theorem program_fine'{ps:List B.Ins}{size slots:Int}(h1:¬(size<0∨8<size∨slots<0∨64<slots))(h2:¬16384<ps.length)(h:B.firstTouch size slots ps.length 0 ps=none)(hr:B.firstRead ps=none):B.program ps size slots=(0,none):=by
 unfold B.program;rw[if_neg h1,if_neg h2,h,hr]
theorem firstRead_none'{ps:List B.Ins}(h:∀i,i<ps.length→B.badAt ps i=false):B.firstRead ps=none:=by
 unfold B.firstRead;rw[List.find?_eq_none];intro i hi;rw[h i (List.mem_range.1 hi)];simp
theorem program_arg'{ps:List B.Ins}{size slots:Int}(h1:size<0∨8<size∨slots<0∨64<slots):B.program ps size slots=(1,none):=by
 unfold B.program;rw[if_pos h1]
theorem program_many'{ps:List B.Ins}{size slots:Int}(h1:¬(size<0∨8<size∨slots<0∨64<slots))(h2:16384<ps.length):B.program ps size slots=(5,none):=by
 unfold B.program;rw[if_neg h1,if_pos h2]
theorem regsV_zero:regsV 0= #[.bool false,.bool false,.bool false,.bool false,.bool false,.bool false,.bool false,.bool false,.bool false,.bool false,.bool false,.bool false,.bool false,.bool false,.bool false,.bool false]:=by rfl
theorem refprog_arg(a:Option Addr)(len cap:Nat)(ps:List B.Ins)(size slots:Int)(w:World)(hp:ProgAt w a len ps)(h:(size<0∨8<size∨slots<0∨64<slots)∨16384<len)(hl:len≤9223372036854775807):
    Calls Tryz.prog 34 #[.slice a len cap,.int .i64 size,.int .i64 slots] w (RefProgOut ps size slots w):=by
 unfold RefProgOut;have HL:Hid (len=ps.length):=hp.len;clear hp
 by_cases q1:size<0
 ·have d1:decide (size<0)=true:=by simpa using q1
  go_enter Tryz.func34,Tryz.ntmps34;go_wp2_with fail;go_ret2;exact⟨by rw[program_arg' (.inl q1)];rfl,Below.refl _ _⟩
 ·by_cases q2:8<size
  ·have d2:decide (8<size)=true:=by simpa using q2
   go_enter Tryz.func34,Tryz.ntmps34;go_wp2_with fail;go_ret2;exact⟨by rw[program_arg' (.inr (.inl q2))];rfl,Below.refl _ _⟩
  ·by_cases q3:slots<0
   ·have d3:decide (slots<0)=true:=by simpa using q3
    go_enter Tryz.func34,Tryz.ntmps34;go_wp2_with fail;go_ret2;exact⟨by rw[program_arg' (.inr (.inr (.inl q3)))];rfl,Below.refl _ _⟩
   ·by_cases q4:64<slots
    ·have d4:decide (64<slots)=true:=by simpa using q4
     go_enter Tryz.func34,Tryz.ntmps34;go_wp2_with fail;go_ret2;exact⟨by rw[program_arg' (.inr (.inr (.inr q4)))];rfl,Below.refl _ _⟩
    ·have HA:Hid (¬(size<0∨8<size∨slots<0∨64<slots)):=by show¬_;omega
     have q5:16384<len:=by omega
     have d5:decide ((16384:Int)<(len:Int))=true:=by simp;omega
     clear h;go_enter Tryz.func34,Tryz.ntmps34;go_wp2_with fail;go_ret2;exact⟨by rw[program_many' HA.out (by have:=HL.out;omega)];rfl,Below.refl _ _⟩
set_option maxRecDepth 100000 in
set_option maxHeartbeats 12800000 in
theorem refprog_in(b0 off0 len cap:Nat)(ps:List B.Ins)(size slots:Int)(w:World)(hp:ProgAt w (some ⟨b0,off0,none⟩) len ps)(hwf:∀y∈ps,y.Wf)(hs:0≤size∧size≤8)(ht:0≤slots∧slots≤64)(hl:len≤16384)(hpos:0<len):
    Calls Tryz.prog 34 #[.slice (some ⟨b0,off0,none⟩) len cap,.int .i64 size,.int .i64 slots] w (RefProgOut ps size slots w):=by
 unfold RefProgOut;have HP:=hd' hp;have HWF:=hd' hwf
 have HA:Hid (¬(size<0∨8<size∨slots<0∨64<slots)):=by show¬_;omega
 have HL:Hid (¬16384<ps.length):=by show¬_;have:=hp.len;omega
 obtain⟨hs0,hs1⟩:=hs;obtain⟨ht0,ht1⟩:=ht;clear hp hwf;go_enter Tryz.func34,Tryz.ntmps34;go_wp2_with fail
 go_loopw [8] (fun i wr=>∃k:Nat,i= .int .i64 k∧k≤len∧B.firstTouch size slots ps.length 0 ps=B.firstTouch size slots ps.length k (ps.drop k)∧Below w.heap.size w wr) (fun i _=>len-(intOf i).toNat)
 case atStart=>exact⟨0,rfl,Nat.zero_le _,rfl,Below.refl _ _⟩
 case round=>
  obtain⟨k,rfl,hk,hft,hb⟩:=hrel;have hsz:=hb.size;have HB:=hd' hb
  by_cases hlt:k<len
  ·have hx:ps[k]? =some (ps[k]'(by have:=HP.out.len;omega)):=List.getElem?_eq_getElem _
   have hdr:ps.drop k=ps[k]'(by have:=HP.out.len;omega)::ps.drop (k+1):=List.drop_eq_getElem_cons _;generalize ps[k]'(by have:=HP.out.len;omega)=x at hx hdr;rw[hdr]at hft;have HFT:=hd' hft;have HC:=hd' (touches13_any b0 off0 len cap ps k x size slots wr hx (HP.out.below hb (lR' _)) (HWF.out x (List.mem_of_getElem? hx)) hl);obtain⟨tc,htc⟩:∃tc,refTouch x size slots ((len:Int)-k-1)=tc:=⟨_,rfl⟩;unfold TouchesOut at HC;rw[htc]at HC
   have HTC:Hid (refTouch x size slots ((ps.length:Int)-k-1)=tc):=by rw[←htc,HP.out.len];exact hd' rfl
   clear hx hdr hft hb htc
   by_cases hz:tc=0
   ·subst hz
    go_wp2_with fail;refine HC.out.mono ?_;rintro e w1 ⟨rfl,hb1⟩;have HB1:=hd' (HB.out.trans (hb1.mono hsz));clear hb1;go_wp2_with fail;go_roundw
    case rel=>exact⟨k+1,by go_num,by omega,by rw[HFT.out];exact refTouch_step HTC.out,HB1.out⟩
    case measure=>simp[intOf];omega
   ·have hz2:(tc !=0)=true:=by simpa using hz
    have HZ:=hd' hz;clear hz;go_wp2_with fail;refine HC.out.mono ?_;rintro e w1 ⟨rfl,hb1⟩;have HB1:=hd' (HB.out.trans (hb1.mono hsz));clear hb1;go_wp2_with fail;go_ret2;refine⟨?_,HB1.out⟩;have h1:=refTouch_bad (r:=ps.drop (k+1)) (show refTouch x size slots ((ps.length:Int)-k-1)≠0 by rw[HTC.out];exact HZ.out);rw[HTC.out]at h1;rw[program_touch' HA.out HL.out (HFT.out.trans h1)];rfl
  ·obtain rfl:k=len:=by omega
   have HFT:Hid (B.firstTouch size slots ps.length 0 ps=none):=by
    rw[hft,List.drop_of_length_le (by have:=HP.out.len;omega)];exact hd' rfl
   have HOK:=hd' ((B.okTouch_iff ps size slots).1 HFT.out);clear hft hb hlt hk;go_wp2_with fail;obtain⟨wo,hwo⟩:∃wo:World,wo=wr:=⟨_,rfl⟩;subst hwo
   go_loopw [10,11] (fun v i wr=>∃(q:Nat) (ao:Option Addr) (c:Nat),i= .int .i64 q∧q≤k∧v= .slice ao q c∧wr.ownsRow w.heap.size 89 17 (.slice ao q c) q (cellsS q (fun _=>none))∧Below w.heap.size w wr) (fun _ i _=>k-(intOf i).toNat)
   case atStart=>exact⟨0,none,0,rfl,Nat.zero_le _,rfl,World.ownsRow_nil _ _ _ _,HB.out⟩
   case round=>
    obtain⟨q,ao,c,rfl,hq,rfl,hown,hb⟩:=hrel;have hsz2:=hb.size;have HB2:=hd' hb;have HOWN:=hd' hown;clear hb hown
    by_cases hlt:q<k
    ·go_wp2_with (at_builtin;refine app_gen Tryz.underlying87 infoI89 rfl (by omega) rfl _ _ rfl w.heap.size rfl HOWN.out rfl (by rfl) (by simp[Value.oneCell']) (by omega) (by omega) hsz2 ?_;intro ao2 cap2 w2 hown2 hg2 hb2 hs2)
     have HO2:Hid (w2.ownsRow w.heap.size 89 17 (.slice ao2 (q+1) cap2) (q+1) (cellsS (q+1) (fun _=>none))):=by
      rw[cellsS_succ,stCells_none];exact hd' hown2
     have HB3:=hd' (HB2.out.trans hb2);clear hown2 hg2 hb2;go_wp2_with fail;go_roundw
     case rel=>exact⟨q+1,ao2,cap2,by go_num,by omega,rfl,HO2.out,HB3.out⟩
     case measure=>simp[intOf];omega
    ·obtain rfl:q=k:=by omega
     obtain⟨g,rfl⟩:∃g,ao=some ⟨g,0,none⟩:=by
      rcases HOWN.out.2 with⟨h0,h1⟩ | ⟨g,cap',cur,h0,_⟩
      ·exfalso;omega
      ·injection h0 with h0 _ _
       exact⟨g,h0⟩
     have HST:Hid (StatesAt wr w.heap.size g q c (fun _=>none)):=HOWN.out;have hglt:=(HST.out.lt g rfl);clear hlt HOWN HB;go_wp2_with fail;have HC:=hd' (come13_any g q c 0 0 w.heap.size (fun _=>none) wr HST.out hl (by omega));rw[regsV_zero]at HC;have hb0:=HB2.out;refine(HC.out).mono ?_;rintro e w2 ⟨rfl,hst2,hg2⟩
     have HST2:Hid (StatesAt w2 w.heap.size g q c (B.stAt ps 0)):=hd' (hst2.congr (fun j _=>by
      show B.come (fun _=>none) 0 0 j=if j=0 then some 0 else none
      unfold B.come;rfl))
     have HB3:Hid (Below w.heap.size w w2):=hd' (hb0.grown hg2 hsz2 (fun k hk=>by have:=Option.some.inj hk;omega));clear hst2 hg2 HC hb0 HB2 HST;go_wp2_with fail
     go_loopw [12] (fun i wr=>∃k:Nat,i= .int .i64 k∧k≤q∧(∀i,i<k→B.badAt ps i=false)∧StatesAt wr w.heap.size g q c (B.stAt ps k)∧Below w.heap.size w wr) (fun i _=>q-(intOf i).toNat)
     case atStart=>exact⟨0,rfl,Nat.zero_le _,fun i hi=>by omega,HST2.out,HB3.out⟩
     case round=>
      obtain⟨k,rfl,hk,hbad,hst,hb⟩:=hrel;have hsz3:=hb.size;have HB:=hd' hb;have HST:=hd' hst;have HBAD:=hd' hbad;clear HST2 HB3 hb hbad
      by_cases hlt:k<q
      ·have hx:ps[k]? =some (ps[k]'(by have:=HP.out.len;omega)):=List.getElem?_eq_getElem _
       generalize ps[k]'(by have:=HP.out.len;omega)=x at hx;have HX:=hd' hx;have hgw:=(hst.lt g rfl).2;have ht0:=hst.there hlt
       cases hs:B.stAt ps k k with
       | none=>
        rw[hs]at ht0;have ht1:wr.cell? ⟨g,k*17,none⟩=some (.bool false):=ht0;have HS:=hd' hs;clear hs ht0 hst hx;go_wp2_with fail;go_roundw
        case rel=>
         refine⟨k+1,by go_num,by omega,fun i hi=> ?_,by rw[stAt_none HS.out];exact HST.out,HB.out⟩
         by_cases e:i=k
         ·subst e;exact badAt_none HS.out
         ·exact HBAD.out i (by omega)
        case measure=>simp[intOf];omega
       | some wv=>
        rw[hs]at ht0;have ht1:wr.cell? ⟨g,k*17,none⟩=some (.bool true):=ht0;obtain⟨b',off',e',hbl,hat⟩:=HP.out.at_ k x hx;simp only[Option.some.injEq,Addr.mk.injEq,and_true]at e';obtain⟨rfl,rfl⟩:=e';obtain⟨h0,h1,h2,h3,h4⟩:=hat.below HB.out hbl;have hrg:=StatesAt.range (StatesAt.below hst ((Below.refl _ _).alloc (lR' _) (.cells #[.int .i64 x.op,.int .i64 x.a,.int .i64 x.b,.int .i64 x.n,.int .u64 x.imm] 25))) hlt hs;have hr:=HOK.out.right k x hx;obtain⟨N,hN⟩:∃N:Nat,x.n=N:=⟨x.n.toNat,by have:=B.right_bounds hr;omega⟩
        have hN14:N≤16384:=by have:=B.right_bounds hr;omega
        have hbw:b0<wr.heap.size:=by omega
        have HS:=hd' hs;have HR:=hd' hr;have HN:=hd' hN;have HRG:=hd' hrg;obtain⟨wm,hwm⟩:∃wm,(wr.alloc (.cells #[.int .i64 x.op,.int .i64 x.a,.int .i64 x.b,.int .i64 x.n,.int .u64 x.imm] 25)).alloc (.cells (regsV wv) 82)=wm:=⟨_,rfl⟩
        have HMD:Hid (MidP (B.stAt ps k) w.heap.size g q c wr.heap.size x (bitOf wv) w wm):=by
         rw[←hwm];have hi:=insAt_new x wr;have hbx:=(Below.refl wr.heap.size wr).alloc (lR' _) (.cells #[.int .i64 x.op,.int .i64 x.a,.int .i64 x.b,.int .i64 x.n,.int .u64 x.imm] 25);have hbx2:=hbx.alloc (by simp) (.cells (regsV wv) 82);have hrn:=RegsIn.new (bitOf wv) 82 (wr.alloc (.cells #[.int .i64 x.op,.int .i64 x.a,.int .i64 x.b,.int .i64 x.n,.int .u64 x.imm] 25));refine hd' ⟨HST.out.below hbx2,hi.below ((Below.refl _ _).alloc (lR' _) _) (by simp), ?_,HB.out.trans (hbx2.mono hsz3),hsz3,hgw,(HST.out.lt g rfl).1,by simp⟩;rw[show regsF (bitOf wv)=regsV wv from rfl]at hrn;simpa using hrn
        clear hs ht0 hst hx hat hbl hrg hr hN;unfold regsV at hwm
        go_upto_region 23 with(refine wpList_load_mid (by rfl) 82 _ (by rfl) g (k*17+1) (by rfl) [.bool (bitOf wv 0),.bool (bitOf wv 1),.bool (bitOf wv 2),.bool (bitOf wv 3),.bool (bitOf wv 4),.bool (bitOf wv 5),.bool (bitOf wv 6),.bool (bitOf wv 7),.bool (bitOf wv 8),.bool (bitOf wv 9),.bool (bitOf wv 10),.bool (bitOf wv 11),.bool (bitOf wv 12),.bool (bitOf wv 13),.bool (bitOf wv 14),.bool (bitOf wv 15)] _ HRG.out Tryz.underlying82 (by rfl) (by rw[infoB82];rfl) ?_)
        clear hwm h0 h1 h2 h3 h4 hbw HRG ht1;generalize hX:wr.heap.size=X at*;clear hX;obtain⟨wo2,hwo2⟩:∃wo2:World,wo2=wr:=⟨_,rfl⟩;subst hwo2;go_wp2_with fail
        go_loopw [15] (fun v wy=>∃r:Nat,r≤16∧v= .int .i64 r∧(∀p,p<r→x.reads p=true→bitOf wv p=true)∧MidP (B.stAt ps k) w.heap.size g q c X x (bitOf wv) w wy) (fun v _=>16-(intOf v).toNat)
        case atStart=>exact⟨0,by omega,rfl,fun p hp=>by omega,HMD.out⟩
        case round=>
         obtain⟨r,hr16,rfl,hall,hm⟩:=hrel;have HMK:=hd' hm;have HALL:=hd' hall;clear hm hall HMD
         by_cases hlt2:r<16
         ·have c0:=HMK.out.box.c0
          have c1:=HMK.out.box.c1;have c2:=HMK.out.box.c2;have c3:=HMK.out.box.c3;have c4:=HMK.out.box.c4;have HRC:=hd' (reads13_any x HR.out r wr)
          have r0:(0:Int)≤(r:Int):=by omega
          have r1:(r:Int)<16:=by omega
          cases hrd:x.reads r with
          | true=>
           rw[hrd]at HRC;have HRD:=hd' hrd;clear hrd;go_wp2_with fail;refine HRC.out.mono ?_;rintro e w3 ⟨rfl,hb3⟩;have HM3:=hd' (HMK.out.below hb3);have cr:=CellsAt.cell HM3.out.reg (j:=r) hlt2;clear hb3 c0 c1 c2 c3 c4 HRC HMK
           cases hbv:bitOf wv r with
           | true=>
            rw[hbv]at cr;have HBV:=hd' hbv;clear hbv;go_wp2_with fail;go_roundw
            case rel=>
             refine⟨r+1,by omega,by go_num,fun p hp h=> ?_,HM3.out⟩
             by_cases e:p=r
             ·subst e;exact HBV.out
             ·exact HALL.out p (by omega) h
            case measure=>simp[intOf];omega
           | false=>
            rw[hbv]at cr;have HFR:Hid (B.firstRead ps=some k):=firstRead_some (by have:=HP.out.len;omega) HBAD.out (bad_yes HX.out HS.out HR.out HRD.out hbv);clear hbv;go_wp2_with fail;go_ret2;exact⟨by rw[program_read' HA.out HL.out HFT.out HFR.out];rfl,HM3.out.bel⟩
          | false=>
           rw[hrd]at HRC;have HRD:=hd' hrd;clear hrd;go_wp2_with fail;refine HRC.out.mono ?_;rintro e w3 ⟨rfl,hb3⟩;have HM3:=hd' (HMK.out.below hb3);clear hb3 c0 c1 c2 c3 c4 HRC HMK;go_wp2_with fail;go_roundw
           case rel=>
            refine⟨r+1,by omega,by go_num,fun p hp h=> ?_,HM3.out⟩
            by_cases e:p=r
            ·subst e;rw[HRD.out]at h;cases h
            ·exact HALL.out p (by omega) h
           case measure=>simp[intOf];omega
         ·obtain rfl:r=16:=by omega
          have HBK:Hid (∀i,i<k+1→B.badAt ps i=false):=by
           have hbk:=bad_no HX.out HS.out HR.out HALL.out;refine hd' (fun i hi=> ?_)
           by_cases e:i=k
           ·subst e;exact hbk
           ·exact HBAD.out i (by omega)
          clear hr16 hlt2 HALL;rw[show((16:Nat):Int)=(16:Int)from rfl];go_wp2_with fail;obtain⟨wo3,hwo3⟩:∃wo3:World,wo3=wr:=⟨_,rfl⟩;subst hwo3
          go_loopw [16] (fun v wy=>∃r:Nat,r≤16∧v= .int .i64 r∧MidP (B.stAt ps k) w.heap.size g q c X x (fun p=>if p<r then bitOf wv p||x.writes p else bitOf wv p) w wy) (fun v _=>16-(intOf v).toNat)
          case atStart=>exact⟨0,by omega,rfl,HMK.out.congr (fun p _=>by rw[if_neg (by omega)])⟩
          case round=>
           obtain⟨r,hr16,rfl,hm⟩:=hrel;have HML:=hd' hm;clear hm HMK
           by_cases hlt2:r<16
           ·have c0:=HML.out.box.c0
            have c1:=HML.out.box.c1;have c2:=HML.out.box.c2;have c3:=HML.out.box.c3;have c4:=HML.out.box.c4
            have cr:wr.cell? ⟨X+1,r,none⟩=some (.bool (bitOf wv r)):=by have:=CellsAt.cell HML.out.reg (j:=r) hlt2;simpa using this
            have HRC:=hd' (writes13_any x HR.out r wr)
            have r0:(0:Int)≤(r:Int):=by omega
            have r1:(r:Int)<16:=by omega
            have HNX:∀wy,MidP (B.stAt ps k) w.heap.size g q c X x (fun p=>if p<r then bitOf wv p||x.writes p else bitOf wv p) w wy→MidP (B.stAt ps k) w.heap.size g q c X x (fun p=>if p<r+1 then bitOf wv p||x.writes p else bitOf wv p) w (wy.setCell ⟨X+1,r,none⟩ (.bool (bitOf wv r||x.writes r))):=by
             intro wy h;refine(h.set r (bitOf wv r||x.writes r)).congr (fun p _=> ?_)
             by_cases e:p=r
             ·subst e;rw[if_pos rfl,if_pos (by omega)]
             ·rw[if_neg e]
              by_cases h1:p<r
              ·rw[if_pos h1,if_pos (by omega)]
              ·rw[if_neg h1,if_neg (by omega)]
            have HNXH:=hd' HNX;clear HNX
            cases hbv:bitOf wv r with
            | true=>
             rw[hbv]at cr HNXH;rw[Bool.true_or]at HNXH;have fr:=CellsAt.free HML.out.reg r;have HN1:=hd' (HNXH.out wr HML.out);clear hbv c0 c1 c2 c3 c4 HRC HNXH HML;go_wp2_with fail;go_roundw
             case rel=>exact⟨r+1,by omega,by go_num,HN1.out⟩
             case measure=>simp[intOf];omega
            | false=>
             rw[hbv]at cr HNXH;rw[Bool.false_or]at HNXH;clear hbv;go_wp2_with fail;refine HRC.out.mono ?_;rintro e w3 ⟨rfl,hb3⟩;have HM3:=hd' (HML.out.below hb3);have HN1:=hd' (HNXH.out w3 HM3.out);have cr3:=CellsAt.cell HM3.out.reg (j:=r) hlt2;have fr3:=CellsAt.free HM3.out.reg r;clear hb3 c0 c1 c2 c3 c4 cr HRC HNXH HML HM3;generalize x.writes r=bw at*;go_wp2_with fail;go_roundw
             case rel=>exact⟨r+1,by omega,by go_num,HN1.out⟩
             case measure=>simp[intOf];omega
           ·obtain rfl:r=16:=by omega
            obtain⟨v2,hv2⟩:∃v2,x.after wv=v2:=⟨_,rfl⟩;have HM5:Hid (MidP (B.stAt ps k) w.heap.size g q c X x (bitOf v2) w wr):=hd' (HML.out.congr (fun p hp=>by rw[if_pos hp,←hv2,after_bit HR.out]));have HSN:=hd' (stAt_some HX.out HS.out);have HV2:=hd' hv2;have HRG:=hd' (RegsIn.range HM5.out.reg);have c0:=HM5.out.box.c0;have c3:=HM5.out.box.c3;rw[HN.out]at c3;have k1:IntKind.i64.wrap ((k:Int)+1)=(k:Int)+1:=IntWalk.i64_in _ (by omega);have k2:IntKind.i64.wrap ((k:Int)+1+(N:Int))=(k:Int)+1+(N:Int):=IntWalk.i64_in _ (by omega)
            have e1:((k+1:Nat):Int)=(k:Int)+1:=by omega
            have e2:((k+1+N:Nat):Int)=(k:Int)+1+(N:Int):=by omega
            have HC1:=hd' (come13_any g q c (k+1) v2 w.heap.size (B.stAt ps k) wr HM5.out.st hl (by omega));have HC2:=hd' (come13_any g q c (k+1+N) v2 w.heap.size (B.stAt ps k) wr HM5.out.st hl (by omega));rw[e1]at HC1;rw[e2]at HC2;unfold regsV at HC1 HC2;clear hv2 hr16 hlt2 HML e1
            by_cases h0:x.op=0
            ·rw[h0]at c0
             have H0:=hd' h0;clear h0 e2 HC1 HC2;go_wp2_with fail;go_roundw
             case rel=>exact⟨k+1,by go_num,by omega,HBK.out,by rw[HSN.out,rnext_halt H0.out];exact HM5.out.st,HM5.out.bel⟩
             case measure=>simp[intOf];omega
            ·by_cases h18:x.op=18
             ·rw[h18]at c0
              have H18:=hd' h18;clear h0 h18 e2 HC1;go_wp2_with (refine wpList_load_mid (by rfl) 82 _ (by rfl) (X+1) 0 (by rfl) [.bool (bitOf v2 0),.bool (bitOf v2 1),.bool (bitOf v2 2),.bool (bitOf v2 3),.bool (bitOf v2 4),.bool (bitOf v2 5),.bool (bitOf v2 6),.bool (bitOf v2 7),.bool (bitOf v2 8),.bool (bitOf v2 9),.bool (bitOf v2 10),.bool (bitOf v2 11),.bool (bitOf v2 12),.bool (bitOf v2 13),.bool (bitOf v2 14),.bool (bitOf v2 15)] _ HRG.out Tryz.underlying82 (by rfl) (by rw[infoB82];rfl) ?_);refine HC2.out.mono ?_;rintro e w4 ⟨rfl,hst4,hg4⟩;have HM6:=hd' (HM5.out.come hst4 hg4);clear hst4 hg4 HC2 HM5 c0 c3 HRG;go_wp2_with fail;go_roundw
              case rel=>exact⟨k+1,by go_num,by omega,HBK.out,by rw[HSN.out,rnext_skip H18.out,HV2.out,HN.out];exact HM6.out.st,HM6.out.bel⟩
              case measure=>simp[intOf];omega
             ·by_cases h19:x.op=19
              ·rw[h19]at c0
               have H19:=hd' h19;clear h0 h18 h19 HC2;go_wp2_with (refine wpList_load_mid (by rfl) 82 _ (by rfl) (X+1) 0 (by rfl) [.bool (bitOf v2 0),.bool (bitOf v2 1),.bool (bitOf v2 2),.bool (bitOf v2 3),.bool (bitOf v2 4),.bool (bitOf v2 5),.bool (bitOf v2 6),.bool (bitOf v2 7),.bool (bitOf v2 8),.bool (bitOf v2 9),.bool (bitOf v2 10),.bool (bitOf v2 11),.bool (bitOf v2 12),.bool (bitOf v2 13),.bool (bitOf v2 14),.bool (bitOf v2 15)] _ HRG.out Tryz.underlying82 (by rfl) (by rw[infoB82];rfl) ?_);refine HC1.out.mono ?_;rintro e w4 ⟨rfl,hst4,hg4⟩;have HM6:=hd' (HM5.out.come hst4 hg4);have HC3:=hd' (come13_any g q c (k+1+N) v2 w.heap.size _ w4 HM6.out.st hl (by omega));rw[e2]at HC3;unfold regsV at HC3;clear hst4 hg4 HC1 HM5 c0 c3 HRG e2;have c0:=HM6.out.box.c0;have c3:=HM6.out.box.c3;rw[H19.out]at c0;rw[HN.out]at c3
               have HRG:=hd' (RegsIn.range HM6.out.reg);go_wp2_with (refine wpList_load_mid (by rfl) 82 _ (by rfl) (X+1) 0 (by rfl) [.bool (bitOf v2 0),.bool (bitOf v2 1),.bool (bitOf v2 2),.bool (bitOf v2 3),.bool (bitOf v2 4),.bool (bitOf v2 5),.bool (bitOf v2 6),.bool (bitOf v2 7),.bool (bitOf v2 8),.bool (bitOf v2 9),.bool (bitOf v2 10),.bool (bitOf v2 11),.bool (bitOf v2 12),.bool (bitOf v2 13),.bool (bitOf v2 14),.bool (bitOf v2 15)] _ HRG.out Tryz.underlying82 (by rfl) (by rw[infoB82];rfl) ?_);refine HC3.out.mono ?_;rintro e w5 ⟨rfl,hst5,hg5⟩;have HM7:=hd' (HM6.out.come hst5 hg5);clear hst5 hg5 HC3 HM6 c0 c3 HRG;go_wp2_with fail;go_roundw
               case rel=>exact⟨k+1,by go_num,by omega,HBK.out,by rw[HSN.out,rnext_ne H19.out,HV2.out,HN.out];exact HM7.out.st,HM7.out.bel⟩
               case measure=>simp[intOf];omega
              ·have q0:(x.op !=0)=true:=by simpa using h0
               have q1:(x.op !=18)=true:=by simpa using h18
               have q2:(x.op==18)=false:=by simpa using h18
               have q3:(x.op==19)=false:=by simpa using h19
               have HON:=hd' (rnext_on (k:=k) (v:=wv) (st:=B.stAt ps k) h0 h18 h19);clear h0 h18 h19 e2 HC2;go_wp2_with (refine wpList_load_mid (by rfl) 82 _ (by rfl) (X+1) 0 (by rfl) [.bool (bitOf v2 0),.bool (bitOf v2 1),.bool (bitOf v2 2),.bool (bitOf v2 3),.bool (bitOf v2 4),.bool (bitOf v2 5),.bool (bitOf v2 6),.bool (bitOf v2 7),.bool (bitOf v2 8),.bool (bitOf v2 9),.bool (bitOf v2 10),.bool (bitOf v2 11),.bool (bitOf v2 12),.bool (bitOf v2 13),.bool (bitOf v2 14),.bool (bitOf v2 15)] _ HRG.out Tryz.underlying82 (by rfl) (by rw[infoB82];rfl) ?_);refine HC1.out.mono ?_;rintro e w4 ⟨rfl,hst4,hg4⟩;have HM6:=hd' (HM5.out.come hst4 hg4);clear hst4 hg4 HC1 HM5 c0 c3 HRG;have c0:=HM6.out.box.c0;go_wp2_with fail;go_roundw
               case rel=>exact⟨k+1,by go_num,by omega,HBK.out,by rw[HSN.out,HON.out,HV2.out];exact HM6.out.st,HM6.out.bel⟩
               case measure=>simp[intOf];omega
      ·obtain rfl:k=q:=by omega
       have HFR:Hid (B.firstRead ps=none):=firstRead_none' (fun i hi=>HBAD.out i (by have:=HP.out.len;omega));clear hst;go_wp2_with fail;go_ret2;exact⟨by rw[program_fine' HA.out HL.out HFT.out HFR.out];rfl,HB.out⟩
set_option maxRecDepth 100000 in
set_option maxHeartbeats 3200000 in
theorem refprog_nil(a:Option Addr)(cap:Nat)(size slots:Int)(w:World)(hs:0≤size∧size≤8)(ht:0≤slots∧slots≤64):
    Calls Tryz.prog 34 #[.slice a 0 cap,.int .i64 size,.int .i64 slots] w (RefProgOut [] size slots w):=by
 unfold RefProgOut
 have HA:Hid (¬(size<0∨8<size∨slots<0∨64<slots)):=by show¬_;omega
 have HC:=hd' (come_nil 0 w);rw[regsV_zero]at HC;obtain⟨hs0,hs1⟩:=hs;obtain⟨ht0,ht1⟩:=ht;go_enter Tryz.func34,Tryz.ntmps34;go_wp2_with fail
 go_loop [8] (fun i=>i= .int .i64 0) (fun _=>0)
 case atStart=>rfl
 case round=>
  obtain rfl:=hrel;go_wp2_with fail
  go_loop [10,11] (fun v i=>v= .slice none 0 0∧i= .int .i64 0) (fun _ _=>0)
  case atStart=>exact⟨rfl,rfl⟩
  case round=>
   obtain⟨rfl,rfl⟩:=hrel;go_wp2_with fail;refine HC.out.mono ?_;rintro e w2 ⟨rfl,hb2⟩;have HB2:=hd' hb2;clear hb2;go_wp2_with fail
   go_loop [12] (fun i=>i= .int .i64 0) (fun _=>0)
   case atStart=>rfl
   case round=>
    obtain rfl:=hrel;go_wp2_with fail;go_ret2;exact⟨by rw[program_fine' HA.out (by simp) rfl rfl];rfl,HB2.out⟩
theorem refprog_any(a:Option Addr)(len cap:Nat)(ps:List B.Ins)(size slots:Int)(w:World)(hp:ProgAt w a len ps)(hwf:∀y∈ps,y.Wf)(hl:len≤9223372036854775807):
    Calls Tryz.prog 34 #[.slice a len cap,.int .i64 size,.int .i64 slots] w (RefProgOut ps size slots w):=by
 by_cases h:(size<0∨8<size∨slots<0∨64<slots)∨16384<len
 ·exact refprog_arg a len cap ps size slots w hp h hl
 ·cases a with
  | none=>
   obtain⟨rfl,rfl⟩:=hp.none_nil;exact refprog_nil none cap size slots w (by omega) (by omega)
  | some ad=>
   by_cases h0:len=0
   ·subst h0
    obtain rfl:ps=[]:=List.eq_nil_of_length_eq_zero hp.len.symm;exact refprog_nil (some ad) cap size slots w (by omega) (by omega)
   ·obtain⟨b,off,e,_,_⟩:=hp.at_ 0 (ps[0]'(by have:=hp.len;omega)) (List.getElem?_eq_getElem _)
    simp only[Option.some.injEq]at e;subst e;exact refprog_in b off len cap ps size slots w hp hwf (by omega) (by omega) (by omega) (by omega)
end Code
end Go.Proofs.YtpibampaobncaaaGreatDoor
