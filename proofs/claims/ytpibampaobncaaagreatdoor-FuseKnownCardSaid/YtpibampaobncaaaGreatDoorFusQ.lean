/- Package fuse: a shift is read; the low bytes of a mask. -/
import Derived.Test.YtpibampaobncaaaGreatDoorFuX
import Derived.Test.YtpibampaobncaaaGreatDoorRowQ
import Derived.Test.YtpibampaobncaaaGreatDoorPlainQ
import Derived.StillTailTactics
import Derived.RegionTactic
import Derived.Deep.DrawnRows
import Derived.Deep.QuietTactic
import Derived.BigQuiet
import Derived.Deep.Cut
import Derived.Deep.DeepCutAuto
import Derived.Deep.CutBlock
import Derived.Deep.RegionHeld3
import Derived.Laws.ResultCell
import Derived.Laws.EntriesVeiled
import Derived.Test.YtpibampaobncaaaGreatDoorMoreQ
open Go.Lib renaming hid→hd'
open Nat renaming le_refl→lR'
open List renaming setIfInBounds_toArray→sA',set_cons_zero→sZ',set_cons_succ→sS'
namespace Go.Proofs.YtpibampaobncaaaGreatDoor
open Go.RowKit
namespace Code
attribute [local go_sem ↓] Go.wp_at_zero Go.wp_at_succ
def sliceFrom(a:Option Addr)(cap j:Nat):Option Addr:=if cap=j then a else a.map (·.add (j*5))
theorem ProgAt.rest{w:World}{a:Option Addr}{len cap:Nat}{ps:List B.Ins}(h:ProgAt w a len ps)(hc:len≤cap)(j:Nat):ProgAt w (sliceFrom a cap j) (len-j) (ps.drop j):=by
 refine⟨by rw[List.length_drop,h.len],fun i x hx=> ?_⟩;rw[List.getElem?_drop]at hx;obtain⟨b,off,rfl,hb,hi⟩:=h.at_ _ _ hx;have hlt:=(List.getElem?_eq_some_iff.1 hx).1;have hl:=h.len;refine⟨b,off+j*5, ?_,hb,by rw[show off+j*5+i*5=off+(j+i)*5 by omega];exact hi⟩;unfold sliceFrom;rw[if_neg (by omega)];simp only[Option.map_some,Addr.add];split
 ·rename_i h0;rw[h0];rfl
 ·rfl
def shiftK(t:Int):List B.Ins→Bool
 | []=>false
 | x::_=>decide (x.a=t∧(x.op=6∨x.op=7))
def restV(a:Option Addr)(len cap:Nat)(k:Bool):Value:=if k=true then .slice (sliceFrom a cap 1) (len-1) (cap-1)else .slice a len cap
theorem rest_at{a:Option Addr}{len cap:Nat}{l:List B.Ins}{w:World}(hp:ProgAt w a len l)(hc:len≤cap)(t:Int):
    ∃a' len' cap',restV a len cap (shiftK t l)= .slice a' len' cap'∧ProgAt w a' len' (B.shiftOf t l).2∧len'≤cap'∧len'≤len:=by
 cases l with
 | nil=>exact⟨a,len,cap,rfl,hp,hc,lR' _⟩
 | cons x r=>
  have hlen:len=r.length+1:=by rw[hp.len];rfl
  have HR:=ProgAt.rest hp hc 1;rw[B.shiftOf_cons];unfold shiftK restV
  by_cases h6:x.a=t∧x.op=6
  ·rw[if_pos (by simp[h6]),if_pos h6];exact⟨_,_,_,rfl,HR,by omega,by omega⟩
  ·rw[if_neg h6]
   by_cases h7:x.a=t∧x.op=7
   ·rw[if_pos (by simp[h7]),if_pos h7];exact⟨_,_,_,rfl,HR,by omega,by omega⟩
   ·rw[if_neg (by simp only[decide_eq_true_eq];rintro⟨h,h' | h'⟩;exact h6 ⟨h,h'⟩;exact h7 ⟨h,h'⟩),if_neg h7];exact⟨_,_,_,rfl,hp,hc,lR' _⟩
set_option maxRecDepth 100000 in
set_option maxHeartbeats 3200000 in
theorem shift_any(a:Option Addr)(len cap:Nat)(l:List B.Ins)(t:Int)(w:World)(hp:ProgAt w a len l)(hc:len≤cap)(hw:∀x∈l,x.right=true)(hl:len≤1000000):
    Calls Tryz.prog 92 #[.slice a len cap,.int .i64 t] w fun e w'=>e= .returned (.tuple #[.int .i64 (B.shiftOf t l).1,restV a len cap (shiftK t l)])∧∃m,w'=w.drewN m:=by
 cases l with
 | nil=>
  obtain rfl:len=0:=by rw[hp.len];rfl
  clear hp hw;go_enter Tryz.func92,Tryz.ntmps92;go_wp2_with fail;go_ret2;exact⟨rfl,0,rfl⟩
 | cons x r=>
  obtain⟨b,off,rfl,hb,hi⟩:=hp.at_ 0 x rfl
  have hlen:len=r.length+1:=by rw[hp.len];rfl
  have hr:=hw x (by simp)
  have hi0:InsAt w b off x:=by simpa using hi
  have c0:=hi0.c0;have c1:=hi0.c1;have c3:=hi0.c3
  have k1:(1:Int)≤(len:Int):=by omega
  have hneg:x.op=7→(0≤x.n∧x.n≤63):=fun h=>by have:=hr;simp[B.Ins.right,h,B.loN,B.hiN]at this;omega
  rw[B.shiftOf_cons];unfold shiftK restV;clear hp hw hi hi0 hr hlen;obtain⟨o,xa,xb,n,m⟩:=x;simp only at c0 c1 c3 hneg⊢
  by_cases ha:xa=t
  ·subst ha
   by_cases h6:o=6
   ·subst h6
    rw[if_pos ⟨rfl,rfl⟩,if_pos (by simp)];go_enter Tryz.func92,Tryz.ntmps92;go_wp2_with fail
    go_quiet (fail)
    all_goals go_wp2_with fail
    all_goals go_ret2
    all_goals refine⟨?_,_,rfl⟩
    all_goals simp[sliceFrom,Addr.add, *]
   ·rw[if_neg (fun h=>h6 h.2)]
    by_cases h7:o=7
    ·subst h7
     have hn:=hneg rfl;clear hneg;rw[if_pos ⟨rfl,rfl⟩,if_pos (by simp)];go_enter Tryz.func92,Tryz.ntmps92;go_wp2_with fail
     go_quiet (fail)
     all_goals go_wp2_with fail
     all_goals go_ret2
     all_goals refine⟨?_,_,rfl⟩
     all_goals simp[sliceFrom,Addr.add, *]
    ·rw[if_neg (fun h=>h7 h.2),if_neg (by simp[h6,h7])]
     go_enter Tryz.func92,Tryz.ntmps92;go_wp2_with fail;go_ret2;exact⟨rfl,0,rfl⟩
  ·rw[if_neg (fun h=>ha h.1),if_neg (fun h=>ha h.1),if_neg (by simp[ha])]
   go_enter Tryz.func92,Tryz.ntmps92;go_wp2_with fail;go_ret2;exact⟨rfl,0,rfl⟩
theorem and_low(v n:Nat)(hv:v<18446744073709551616)(hn:n≤8):bits .and .u64 (v:Int) (18446744073709551615/2^(64-8*n))=((v%2^(8*n):Nat):Int):=by
 have hb:(18446744073709551615/2^(64-8*n):Int)=((2^(8*n)-1:Nat):Int)∧2^(8*n)-1<18446744073709551616:=by
  have:n=0∨n=1∨n=2∨n=3∨n=4∨n=5∨n=6∨n=7∨n=8:=by omega
  rcases this with rfl | rfl | rfl | rfl | rfl | rfl | rfl | rfl | rfl<;>decide
 rw[hb.1,u64_and_nat v _ hv hb.2,Nat.and_two_pow_sub_one_eq_mod]
theorem flow_any(v n:Nat)(w:World)(hn:n≤8)(hv:v<18446744073709551616):
    Calls Tryz.prog 93 #[.int .u64 v,.int .i64 n] w fun e w'=>e= .returned (.int .u64 (B.lowBits v n:Nat))∧w'=w:=by
 have HA:=hd' (and_low v n hv hn);clear hv;go_enter Tryz.func93,Tryz.ntmps93;go_wp2_with fail;go_ret;exact⟨ret_int HA.out,rfl⟩
end Code
end Go.Proofs.YtpibampaobncaaaGreatDoor
namespace Go.Proofs.YtpibampaobncaaaGreatDoor
open Go.RowKit
namespace Code
attribute [local go_sem ↓] Go.wp_at_zero Go.wp_at_succ
set_option maxRecDepth 100000 in
set_option maxHeartbeats 3200000 in
theorem fskips_any(x:B.Ins)(w:World):
    Calls Tryz.prog 32 #[.agg #[.int .i64 x.op,.int .i64 x.a,.int .i64 x.b,.int .i64 x.n,.int .u64 x.imm]] w fun e w'=>e= .returned (.bool x.skips)∧Below w.heap.size w w':=by
 obtain⟨o,a,c,n,m⟩:=x
 by_cases h8:o=18
 ·subst h8
  go_enter Tryz.func32,Tryz.ntmps32;go_wp2_with fail;go_ret;exact⟨ret_bool (by simp[B.Ins.skips]),(Below.refl _ _).alloc (lR' _) _⟩
 ·by_cases h9:o=19
  ·subst h9
   go_enter Tryz.func32,Tryz.ntmps32;go_wp2_with fail;go_ret;exact⟨ret_bool (by simp[B.Ins.skips]),(Below.refl _ _).alloc (lR' _) _⟩
  ·have q8:(o==18)=false:=by simpa using h8
   have q9:(o==19)=false:=by simpa using h9
   have hs:B.Ins.skips ⟨o,a,c,n,m⟩=false:=by simp[B.Ins.skips,h8,h9]
   rw[hs];clear h8 h9 hs;go_enter Tryz.func32,Tryz.ntmps32;go_wp2_with fail;go_ret;exact⟨ret_bool (by simp),(Below.refl _ _).alloc (lR' _) _⟩
end Code
end Go.Proofs.YtpibampaobncaaaGreatDoor
namespace Go.Proofs.YtpibampaobncaaaGreatDoor
open Go.RowKit
namespace Code
attribute [local go_sem ↓] Go.wp_at_zero Go.wp_at_succ
theorem ins_range{w:World}{b o:Nat}{x:B.Ins}(h:InsAt w b o x):w.rangeAt b o (cellsI x):=by
 obtain⟨h0,h1,h2,h3,h4⟩:=h;intro j v hv
 have hj:j<5:=by have:=(List.getElem?_eq_some_iff.1 hv).1;rw[cellsI_length]at this;exact this
 have:j=0∨j=1∨j=2∨j=3∨j=4:=by omega
 rcases this with rfl | rfl | rfl | rfl | rfl<;>(simp[cellsI]at hv;subst hv;assumption)
theorem step_box{ops:Array Oper}{o:Oper}{a:Act}{K:Act→World→Prop}{Q:Exit→Act→World→Prop}{X:Prop}{W:World}(hgd:o.guard=none)(ho:o.op= .alloc 25){base:Nat}(hb:base≤W.heap.size)
    (h:∀G w',w'.heap[G]? =some (.cells #[.int .i64 0,.int .i64 0,.int .i64 0,.int .i64 0,.int .u64 0] 25 (0,0))→base≤G→Below base W w'→K (a.put o.dst (.pointer (some ⟨G,0,none⟩))) w'):
    if Region.wanted o (yielded ops a.tmps)=true then Oper.wp Tryz.prog o a W K Q else X:=by
 have hw:Region.wanted o (yielded ops a.tmps)=true:=by simp[Region.wanted,hgd]
 rw[if_pos hw];unfold Oper.wp;simp only[execOp,ho];go_simp;exact h _ _ (heap_alloc_new W _) hb ((Below.refl _ _).alloc hb _)
theorem step_ins{ops:Array Oper}{o:Oper}{a:Act}{K:Act→World→Prop}{Q:Exit→Act→World→Prop}{X:Prop}{W:World}(hgd:o.guard=none)(p v:Operand)(ho:o.op= .store 25 p v)
    {G base:Nat} {c0 c1 c2 c3 c4 d0 d1 d2 d3 d4:Value} (hx:a.eval p= .pointer (some ⟨G,0,none⟩)) (hy:a.eval v= .agg #[c0,c1,c2,c3,c4]) (hG:W.heap[G]? =some (.cells #[d0,d1,d2,d3,d4] 25 (0,0))) (hb:base≤G) (h1:(#[c0,c1,c2,c3,c4]:Array Value).all (·.oneCell')=true)
    (h:∀w',w'.heap[G]? =some (.cells #[c0,c1,c2,c3,c4] 25 (0,0))→(∀k,k≠G→w'.heap[k]? =W.heap[k]?)→Below base W w'→K (a.put o.dst undef) w'):
    if Region.wanted o (yielded ops a.tmps)=true then Oper.wp Tryz.prog o a W K Q else X:=by
 have hw:Region.wanted o (yielded ops a.tmps)=true:=by simp[Region.wanted,hgd]
 rw[if_pos hw]
 have hi:(Tryz.prog.info? 25).map (·.size)=some 5:=by kernel_rfl
 refine wp_store_mid 25 p v ho G 0 #[c0,c1,c2,c3,c4] hx hy (fun j hj=>⟨?_,frozen_blk hG⟩) hi h1 ?_
 ·rw[Nat.zero_add,cell_of_row _ _ _ _ _ _ hG]
  have:j<5:=hj;rw[Array.getElem?_eq_getElem (by simpa using this)];rfl
 ·refine h _ ?_ (fun k hk=>by show((((((W.setCell ⟨G,0,none⟩ c0).setCell ⟨G,1,none⟩ c1).setCell ⟨G,2,none⟩ c2).setCell ⟨G,3,none⟩ c3).setCell ⟨G,4,none⟩ c4)).heap[k]? =_;rw[Below.heap_setCell _ _ _ _ hk,Below.heap_setCell _ _ _ _ hk,Below.heap_setCell _ _ _ _ hk,Below.heap_setCell _ _ _ _ hk,Below.heap_setCell _ _ _ _ hk]) ?_
  ·exact blk_setCell (off:=4) (blk_setCell (off:=3) (blk_setCell (off:=2) (blk_setCell (off:=1) (blk_setCell (off:=0) hG c0) c1) c2) c3) c4
  ·exact(((((Below.refl base W).setCell (p:=⟨G,0,none⟩) hb _).setCell (p:=⟨G,1,none⟩) hb _).setCell (p:=⟨G,2,none⟩) hb _).setCell (p:=⟨G,3,none⟩) hb _).setCell (p:=⟨G,4,none⟩) hb _
theorem ins_of_row{w:World}{b:Nat}{x:B.Ins}{t:TypeId}(h:w.heap[b]? =some (.cells #[.int .i64 x.op,.int .i64 x.a,.int .i64 x.b,.int .i64 x.n,.int .u64 x.imm] t (0,0))):InsAt w b 0 x:=
 ⟨(cell_of_row _ _ _ _ _ _ h).trans rfl,(cell_of_row _ _ _ _ _ _ h).trans rfl,(cell_of_row _ _ _ _ _ _ h).trans rfl,(cell_of_row _ _ _ _ _ _ h).trans rfl,(cell_of_row _ _ _ _ _ _ h).trans rfl⟩
def mvF(m:B.Mv):Array Value:= #[.bool m.inn,.int .i64 m.t,.int .i64 m.v,.int .i64 m.way,.int .i64 m.b,.int .i64 m.e,.int .u64 m.bits,.int .i64 m.size]
def mv0:B.Mv:=⟨false,0,0,0,0,0,0,0⟩
def MvIn(w:World)(b:Nat)(m:B.Mv):Prop:=CellsAt w b 60 8 (fun j=>(mvF m).getD j undef)
def mvOut:Option B.Mv→Value
 | some m=>.tuple #[.agg (mvF m),.bool true]
 | none=>.tuple #[.agg (mvF mv0),.bool false]
theorem info60:(Tryz.prog.info? 60).map (·.size)=some 8:=by kernel_rfl
theorem mvF_get(m:B.Mv)(j:Nat)(hj:j<8):(mvF m)[j]? =some ((mvF m).getD j undef):=by
 have:j<(mvF m).size:=hj;rw[Array.getElem?_eq_getElem this,Array.getD_eq_getD_getElem?,Array.getElem?_eq_getElem this];rfl
theorem MvIn.range{w:World}{b:Nat}{m:B.Mv}(h:MvIn w b m):w.rangeAt b 0 (mvF m).toList:=by
 refine CellsAt.range h (by simp[mvF]) ?_;intro j v hj;rw[Array.getElem?_toList]at hj
 have hlt:j<8:=by
  have:=(Array.getElem?_eq_some_iff.1 hj).1;simpa[mvF]using this
 rw[mvF_get m j hlt]at hj;rw[Nat.zero_add];exact Option.some.inj hj
theorem MvIn.new(m:B.Mv)(w:World):MvIn (w.alloc (.cells (mvF m) 60)) w.heap.size m:=CellsAt.new (mvF m) _ w _ (fun j hj=>mvF_get m j hj)
theorem MvIn.store{w:World}{b:Nat}{m:B.Mv}(h:MvIn w b m)(m':B.Mv):MvIn (w.setCells b 0 (mvF m').toList) b m':=by
 refine CellsAt.congr (CellsAt.setCells (mvF m').toList 0 h) (fun j hj=> ?_);rw[if_pos (by simp[mvF];omega),Nat.sub_zero,List.getD_eq_getElem?_getD,Array.getElem?_toList,mvF_get m' j hj];rfl
theorem mvF_ones(m:B.Mv):(mvF m).all (·.oneCell')=true:=by simp[mvF,Value.oneCell']
theorem ret_mv{fn:Func}{p u:Nat}(hr:fn.results= #[.cell p 60,.tmp u]){tmps:Array Value}{wz:World}{R:Nat}{m:B.Mv}{c:Bool}(hp:tmps.getD p undef= .pointer (some ⟨R,0,none⟩))(hu:tmps.getD u undef= .bool c)(hm:MvIn wz R m):
    (results fn tmps).run Tryz.prog wz= .ok (.tuple #[.agg (mvF m),.bool c]) wz:=by
 rw[results_cell_tmp hr,hp,hu];have hload:=run_loadVar_mid (P:=Tryz.prog) wz R 0 60 (mvF m).toList _ (MvIn.range hm) Tryz.underlying60 rfl (by rw[info60];rfl);simp only[asAddr,Sem.run_pure,Result.andThen];rw[hload]
theorem Below.stored{w w':World}{b:Nat}(h:Below b w w')(hs:b≤w'.heap.size)(vs:List Value):Below b w (w'.setCells b 0 vs):=
 h.grown (grownBy_setCells b vs 0 w') hs (fun k hk=>by have:=Option.some.inj hk;omega)
theorem InsAt.stored{w:World}{b off R:Nat}{x:B.Ins}(h:InsAt w b off x)(hb:b<w.heap.size)(hne:b≠R)(vs:List Value):InsAt (w.setCells R 0 vs) b off x:=by
 have hc:∀o,(w.setCells R 0 vs).cell? ⟨b,o,none⟩=w.cell? ⟨b,o,none⟩:=by
  intro o;have:=(grownBy_setCells R vs 0 w).block b hb (fun e=>hne (Option.some.inj e));simp only[World.cell?,this]
 exact⟨(hc _).trans h.c0,(hc _).trans h.c1,(hc _).trans h.c2,(hc _).trans h.c3,(hc _).trans h.c4⟩
def FReadOut(l:List B.Ins)(w:World)(e:Ending)(w':World):Prop:=e= .returned (mvOut (B.readMv l))∧Below w.heap.size w w'
set_option maxRecDepth 100000 in
set_option maxHeartbeats 3200000 in
theorem read_short(a:Option Addr)(len cap:Nat)(l:List B.Ins)(w:World)(hp:ProgAt w a len l)(h2:len<2):
    Calls Tryz.prog 70 #[.slice a len cap] w (FReadOut l w):=by
 unfold FReadOut
 have hn:B.readMv l=none:=by
  have:=hp.len
  match l,this with
  | [],_=>rfl
  | [x],_=>rfl
  | x::y::r,h=>simp at h;omega
 rw[hn];obtain⟨w1,hw1⟩:∃w1,w.alloc (.cells (mvF mv0) 60)=w1:=⟨_,rfl⟩
 have HB1:Hid (Below w.heap.size w w1):=by rw[←hw1];exact hd' ((Below.refl _ _).alloc (lR' _) _)
 have HM1:Hid (MvIn w1 w.heap.size mv0):=by rw[←hw1];exact hd' (MvIn.new mv0 w)
 clear hp hn;go_enter Tryz.func70,Tryz.ntmps70
 go_upto_region 14 with fail
 have hw1':w.alloc (.cells #[.bool false,.int .i64 0,.int .i64 0,.int .i64 0,.int .i64 0,.int .i64 0,.int .u64 0,.int .i64 0] 60)=w1:=hw1;rw[hw1'];clear hw1 hw1';refine bodyPost_ret (v:=.tuple #[.agg (mvF mv0),.bool false]) ?_ rfl ?_
 ·exact ret_mv (p:=2) (u:=3) (by kernel_rfl) (by rfl) (by rfl) HM1.out
 ·exact⟨rfl,HB1.out⟩
end Code
end Go.Proofs.YtpibampaobncaaaGreatDoor
namespace Go.Proofs.YtpibampaobncaaaGreatDoor
open Go.RowKit
namespace Code
attribute [local go_sem ↓] Go.wp_at_zero Go.wp_at_succ
set_option maxRecDepth 100000 in
set_option maxHeartbeats 3200000 in
theorem read_in(a:Option Addr)(len cap:Nat)(x y:B.Ins)(r:List B.Ins)(w:World)(hp:ProgAt w a len (x::y::r))(hc:len≤cap)(hw:∀u∈x::y::r,u.right=true)(hl:len≤1000000)(h2:¬len<2)(hA:x.op=2∧x.a≠x.b):
    Calls Tryz.prog 70 #[.slice a len cap] w (FReadOut (x::y::r) w):=by
 unfold FReadOut;obtain⟨b,off,rfl,hb,hi⟩:=hp.at_ 0 x rfl;obtain⟨b',off',hb',_,hi'⟩:=hp.at_ 1 y rfl;simp only[Option.some.injEq,Addr.mk.injEq,and_true]at hb';obtain⟨rfl,rfl⟩:=hb'
 have HX : Hid (InsAt w b off x) := by have : InsAt w b off x := by simpa using hi
                                       exact hd' this
 have HY : Hid (InsAt w b (off + 5) y) := by have : InsAt w b (off + 5) y := by simpa using hi'
                                             exact hd' this
 obtain⟨ro,hro⟩:∃ro,B.readMv (x::y::r)=ro:=⟨_,rfl⟩;rw[hro];have HP:=hd' hp;have HWR:=hd' hw;obtain⟨w1,hw1⟩:∃w1,w.alloc (.cells (mvF mv0) 60)=w1:=⟨_,rfl⟩
 have hz1:w1.heap.size=w.heap.size+1:=by rw[←hw1];simp
 have HB1:Hid (Below w.heap.size w w1):=by rw[←hw1];exact hd' ((Below.refl _ _).alloc (lR' _) _)
 have HM1:Hid (MvIn w1 w.heap.size mv0):=by rw[←hw1];exact hd' (MvIn.new mv0 w)
 clear hp hw hi hi';go_enter Tryz.func70,Tryz.ntmps70
 go_upto_region 15 with fail
 have hw1':w.alloc (.cells #[.bool false,.int .i64 0,.int .i64 0,.int .i64 0,.int .i64 0,.int .i64 0,.int .u64 0,.int .i64 0] 60)=w1:=hw1;rw[hw1'];clear hw1 hw1'
 go_cut [4,5]from 15 to 21 (fun p q wx=>∃X Y:Nat,p= .pointer (some ⟨X,0,none⟩)∧q= .pointer (some ⟨Y,0,none⟩)∧InsAt wx X 0 x∧InsAt wx Y 0 y∧w.heap.size<X∧w.heap.size<Y∧X≠Y∧X<wx.heap.size∧Y<wx.heap.size∧Below (w.heap.size+1) w1 wx)
 case first=>
  have HXn:=hd' (HX.out.below HB1.out hb);have HYn:=hd' (HY.out.below HB1.out hb)
  have hb1:b<w.heap.size+1:=by omega
  refine wp_region_held_drew (S:=Below (w.heap.size+1) w1) (by kernel_rfl) (Below.refl _ _).drew (fun hS1=> ?_);refine takeS (i:=0) (d:=15) (v:=.slice (some ⟨b,off,none⟩) len cap) rfl rfl rfl (by kernel_rfl) (by kernel_rfl) (by kernel_rfl) (fun _ _ _ h=>h) (fun w' _=>by go_simp) hS1 ?_;simp only[Act.put,sA',sZ',sS'];refine takeS (i:=1) (d:=16) (v:=.pointer (some ⟨b,off,none⟩)) rfl rfl rfl (by kernel_rfl) (by kernel_rfl) (by kernel_rfl) (fun _ _ _ h=>h) (fun w' _=>by(go_simp;intro hq;omega)) hS1 ?_;simp only[Act.put,sA',sZ',sS'];refine takeM (i:=2) (d:=17) 25 _ b off (cellsI x).toArray _ rfl rfl rfl rfl (by rfl) Tryz.underlying25 rfl (by kernel_rfl) (by kernel_rfl) (by kernel_rfl) (by kernel_rfl) (fun _ _ _ h=>h) (fun w' h=>ins_range (HXn.out.below h hb1)) hS1 ?_;simp only[Act.put,sA',sZ',sS']
  refine takeS (i:=3) (d:=18) (v:=.slice (some ⟨b,off,none⟩) len cap) rfl rfl rfl (by kernel_rfl) (by kernel_rfl) (by kernel_rfl) (fun _ _ _ h=>h) (fun w' _=>by go_simp) hS1 ?_;simp only[Act.put,sA',sZ',sS'];refine takeS (i:=4) (d:=19) (v:=.pointer (some ⟨b,off+5,none⟩)) rfl rfl rfl (by kernel_rfl) (by kernel_rfl) (by kernel_rfl) (fun _ _ _ h=>h) (fun w' _=>by(go_simp;intro hq;omega)) hS1 ?_;simp only[Act.put,sA',sZ',sS'];refine takeM (i:=5) (d:=20) 25 _ b (off+5) (cellsI y).toArray _ rfl rfl rfl rfl (by rfl) Tryz.underlying25 rfl (by kernel_rfl) (by kernel_rfl) (by kernel_rfl) (by kernel_rfl) (fun _ _ _ h=>h) (fun w' h=>ins_range (HYn.out.below h hb1)) hS1 ?_;simp only[Act.put,sA',sZ',sS'];have hs1:=hS1.size;refine wpAnyH_ready (rs:=[6,7]) (by kernel_rfl) (by simp) ?_;refine AllReadyH.cons rfl (fun K hK=> ?_) (AllReadyH.cons rfl (fun K hK=> ?_) AllReadyH.nil)
  ·refine step_box (by rfl) (by rfl) (base:=w.heap.size+1) (by omega) ?_
   intro X w2 hX hXb hb2;refine hK.out _ _ (hS1.trans hb2) (fun hS2=> ?_);clear hK K;have hs2:=hS2.size;have hlt:=lt_of_block hX;refine wpAnyH_ready (rs:=[7]) (by kernel_rfl) (by simp) ?_;refine AllReadyH.cons rfl (fun K hK=> ?_) AllReadyH.nil;refine step_box (by rfl) (by rfl) (base:=w2.heap.size) (lR' _) ?_;intro Y w3 hY hYb hb3;refine hK.out _ _ (hS2.trans (hb3.mono (by omega))) (fun hS3=> ?_);clear hK K;have hs3:=hS3.size
   have hne:X≠Y:=by omega
   have hX3:=(hb3.block X hlt).trans hX;refine wpAnyH_ready (rs:=[8]) (by kernel_rfl) (by simp) ?_;refine AllReadyH.cons rfl (fun K hK=> ?_) AllReadyH.nil;refine step_ins (by rfl) _ _ (by rfl) (G:=X) (base:=w.heap.size+1) (by rfl) (by rfl) hX3 (by omega) (by simp[Value.oneCell']) ?_;intro w4 hX4 hk4 hb4;refine hK.out _ _ (hS3.trans hb4) (fun hS4=> ?_);clear hK K;have hY4:=(hk4 Y (Ne.symm hne)).trans hY;refine wpAnyH_ready (rs:=[9]) (by kernel_rfl) (by simp) ?_;refine AllReadyH.cons rfl (fun K hK=> ?_) AllReadyH.nil;refine step_ins (by rfl) _ _ (by rfl) (G:=Y) (base:=w.heap.size+1) (by rfl) (by rfl) hY4 (by omega) (by simp[Value.oneCell']) ?_;intro w5 hY5 hk5 hb5;refine hK.out _ _ (hS4.trans hb5) (fun hS5=> ?_);clear hK K;have hX5:=(hk5 X hne).trans hX4;refine wpAnyH_done (by kernel_rfl) ?_ _;go_wp2_with fail;go_meet
   exact⟨X,Y,rfl,rfl,ins_of_row hX5,ins_of_row hY5,by omega,by omega,hne,lt_of_block hX5,lt_of_block hY5,hS5⟩
  ·refine step_box (by rfl) (by rfl) (base:=w.heap.size+1) (by omega) ?_
   intro Y w2 hY hYb hb2;refine hK.out _ _ (hS1.trans hb2) (fun hS2=> ?_);clear hK K;have hs2:=hS2.size;have hlt:=lt_of_block hY;refine wpAnyH_ready (rs:=[6]) (by kernel_rfl) (by simp) ?_;refine AllReadyH.cons rfl (fun K hK=> ?_) AllReadyH.nil;refine step_box (by rfl) (by rfl) (base:=w2.heap.size) (lR' _) ?_;intro X w3 hX hXb hb3;refine hK.out _ _ (hS2.trans (hb3.mono (by omega))) (fun hS3=> ?_);clear hK K;have hs3:=hS3.size
   have hne:X≠Y:=by omega
   have hY3:=(hb3.block Y hlt).trans hY;refine wpAnyH_ready (rs:=[8]) (by kernel_rfl) (by simp) ?_;refine AllReadyH.cons rfl (fun K hK=> ?_) AllReadyH.nil;refine step_ins (by rfl) _ _ (by rfl) (G:=X) (base:=w.heap.size+1) (by rfl) (by rfl) hX (by omega) (by simp[Value.oneCell']) ?_;intro w4 hX4 hk4 hb4;refine hK.out _ _ (hS3.trans hb4) (fun hS4=> ?_);clear hK K;have hY4:=(hk4 Y (Ne.symm hne)).trans hY3;refine wpAnyH_ready (rs:=[9]) (by kernel_rfl) (by simp) ?_;refine AllReadyH.cons rfl (fun K hK=> ?_) AllReadyH.nil;refine step_ins (by rfl) _ _ (by rfl) (G:=Y) (base:=w.heap.size+1) (by rfl) (by rfl) hY4 (by omega) (by simp[Value.oneCell']) ?_;intro w5 hY5 hk5 hb5;refine hK.out _ _ (hS4.trans hb5) (fun hS5=> ?_);clear hK K;have hX5:=(hk5 X hne).trans hX4;refine wpAnyH_done (by kernel_rfl) ?_ _;go_wp2_with fail;go_meet
   exact⟨X,Y,rfl,rfl,ins_of_row hX5,ins_of_row hY5,by omega,by omega,hne,lt_of_block hX5,lt_of_block hY5,hS5⟩
 obtain⟨X,Y,rfl,rfl,hiX,hiY,gX,gY,hXY,lX,lY,hbc⟩:=hcut;have HMc:=hd' (CellsAt.below HM1.out hbc (by omega));have HT:=hd' (CellsAt.there HMc.out (o:=0) (m:=8) (by omega));have HBc:=hd' (HB1.out.trans (hbc.mono (by omega)));have HS0:=hd' (Below.stored HBc.out HBc.out.size (mvF mv0).toList);have HMS0:=hd' (MvIn.store HMc.out mv0);have HBCN:=hd' hbc;have HXC:=hd' hiX;have HYC:=hd' hiY;have c0:=hiX.c0;have c1:=hiX.c1;have c2:=hiX.c2;have d0:=hiY.c0;have d1:=hiY.c1;clear hiX hiY hbc
 have hcap:¬cap=1:=by omega
 have HPs:Hid (ProgAt w (some ⟨b,off+5,none⟩) (len-1) (y::r)):=by
  have:=ProgAt.rest HP.out hc 1;unfold sliceFrom at this;rw[if_neg hcap]at this;exact hd' this
 have HWY:Hid (∀u∈y::r,u.right=true):=hd' (fun u hu=>HWR.out u (List.mem_cons_of_mem _ hu));obtain⟨ra,rn,rc,hrv,hrp,hrc,hrl⟩:=rest_at HPs.out (show len-1≤cap-1 by omega) x.a;obtain⟨sh,hsh⟩:∃sh,B.shiftOf x.a (y::r)=sh:=⟨_,rfl⟩;rw[hsh]at hrp
 have HSB:Hid ((-63≤sh.1∧sh.1≤63)∧∀u∈sh.2,u.right=true):=by
  obtain⟨s1,h1,h2⟩:=B.shiftOf_sh x.a (y::r);rw[hsh]at h1 h2
  have hs:∀u∈s1,u.right=true:=fun u hu=>HWY.out u (by rw[h1];exact List.mem_append_left _ hu)
  exact hd' ⟨B.sh_bounds h2 hs,fun u hu=>HWY.out u (by rw[h1];exact List.mem_append_right _ hu)⟩
 have HSH:Hid (∀n,Calls Tryz.prog 92 #[.slice (some ⟨b,off+5,none⟩) (len-1) (cap-1),.int .i64 x.a] (wc.drewN n) fun e w'=>e= .returned (.tuple #[.int .i64 sh.1,.slice ra rn rc])∧∃m,w'=(wc.drewN n).drewN m):=by
  refine hd' (fun n=> ?_);have:=shift_any (some ⟨b,off+5,none⟩) (len-1) (cap-1) (y::r) x.a (wc.drewN n) (HPs.out.below (belowN HBc.out n) (lR' _)) (by omega) HWY.out (by omega);rw[hsh,hrv]at this;exact this
 obtain⟨hA1,hA2⟩:=hA
 have q:(x.a==x.b)=false:=by simpa using hA2
 have hlenl:(len:Int)=len:=rfl
 have k1:(1:Int)≤(len:Int):=by omega
 have HRP:=hd' hrp;rw[B.readMv_cons,if_pos ⟨hA1,hA2⟩,hsh]at hro;obtain⟨o,xa,xb,xn,xm⟩:=x;simp only at c0 c1 c2 HSH hro hA1 q;subst hA1;clear hA2 hrv hrp hsh
 go_upto_region 33 with fail
 go_quiet (exact Calls.quiet_of (HSH.out _))
 obtain⟨wd,hwd⟩:∃wd,wc.drewN nq=wd:=⟨_,rfl⟩
 have HBd:Hid (Below w.heap.size w wd):=by rw[←hwd];exact hd' (belowN HBc.out _)
 have HMd:Hid (MvIn wd w.heap.size mv0):=by rw[←hwd];exact hd' (CellsAt.drew HMc.out _)
 have HXd:Hid (InsAt wd X 0 ⟨2,xa,xb,xn,xm⟩):=by rw[←hwd];exact hd' (HXC.out.below (belowN (Below.refl wc.heap.size wc) nq) lX)
 have lXd:X<wd.heap.size:=by rw[←hwd];simpa using lX
 rw[hwd];clear hwd HSH c0 c1 c2 d0 d1;obtain⟨s,l2⟩:=sh;have HRd:Hid (ProgAt wd ra rn l2):=hd' (HRP.out.below HBd.out (lR' _));simp only at hro⊢;have c1:=HXd.out.c1;have c2:=HXd.out.c2;simp only at c1 c2
 cases l2 with
 | nil=>
  obtain rfl:ro=none:=hro.symm;obtain rfl:rn=0:=HRd.out.len;clear hro
  go_upto_region 40 with fail
  go_big_quiet (fail)
  have HSn:=hd' (Below.stored (belowN HBd.out nq) (by have:=HBd.out.size;simpa using this) (mvF mv0).toList);have HMn:=hd' (MvIn.store (CellsAt.drew HMd.out nq) mv0);have HTn:=hd' (CellsAt.there (CellsAt.drew HMd.out nq) (o:=0) (m:=8) (by omega));go_wp2_with (refine wpList_store_mid (by rfl) 60 _ _ (by rfl) w.heap.size 0 (mvF mv0) (by rfl) (by rfl) HTn.out (by rw[info60];rfl) (mvF_ones _) ?_);refine bodyPost_ret (v:=.tuple #[.agg (mvF mv0),.bool false]) ?_ rfl ?_
  ·exact ret_mv (p:=2) (u:=3) (by kernel_rfl) (by rfl) (by rfl) HMn.out
  ·exact⟨rfl,HSn.out⟩
 | cons z rr=>
  obtain⟨zb,zo,rfl,lz,hz⟩:=HRd.out.at_ 0 z rfl;have hrn:rn=rr.length+1:=HRd.out.len
  have hz0:InsAt wd zb zo z:=by simpa using hz
  have HZ:=hd' hz0;have e0:=hz0.c0;have e1:=hz0.c1
  have q0:(((rr.length:Int)+1)==0)=false:=by simp;omega
  have kz:(0:Int)<(rr.length:Int)+1:=by omega
  clear hz hz0;simp only at hro
  by_cases h13:z.op=13
  ·by_cases hza:z.a=xa
   ·rw[if_pos ⟨h13,hza⟩]at hro
    have q1:(z.op !=13)=false:=by simpa using h13
    have q2:(z.a !=xa)=false:=by simpa using hza
    have hwz:=HSB.out.2 z List.mem_cons_self
    have hzr:0≤z.b∧z.b≤7∧1≤z.n∧z.n≤8∧z.b+z.n≤8∧0≤z.imm∧z.imm≤18446744073709551615:=by
     simp[B.Ins.right,h13,B.loN,B.hiN,B.hiB,B.hiImm]at hwz;omega
    have hsb: -63≤s∧s≤63:=HSB.out.1;clear hwz;clear h13 hza
    go_upto_region 40 with fail
    go_big_quiet (fail)
    obtain⟨we,hwe⟩:∃we,wd.drewN nq=we:=⟨_,rfl⟩
    have HBe:Hid (Below w.heap.size w we):=by rw[←hwe];exact hd' (belowN HBd.out _)
    have HMe:Hid (MvIn we w.heap.size mv0):=by rw[←hwe];exact hd' (CellsAt.drew HMd.out _)
    have HXe:Hid (InsAt we X 0 ⟨2,xa,xb,xn,xm⟩):=by rw[←hwe];exact hd' (HXd.out.below (belowN (Below.refl wd.heap.size wd) nq) lXd)
    have HZe:Hid (we.rangeAt zb zo (cellsI z)):=by rw[←hwe];exact hd' (ins_range (HZ.out.below (belowN (Below.refl wd.heap.size wd) nq) (by have:=HBd.out.size;omega)))
    have lXe:X<we.heap.size:=by rw[←hwe];simpa using lXd
    rw[hwe];clear hwe c1 c2 e0 e1 q1 q2;obtain⟨zo',za,zb',zn,zm⟩:=z
    go_upto_region 63 with(refine wpList_load_mid (by rfl) 25 _ (by rfl) zb zo (by rfl) [.int .i64 zo',.int .i64 za,.int .i64 zb',.int .i64 zn,.int .u64 zm] _ HZe.out Tryz.underlying25 (by rfl) (by kernel_rfl) ?_)
    obtain⟨F,hF⟩:∃F,we.heap.size=F:=⟨_,rfl⟩;obtain⟨wf,hwf⟩:∃wf,we.alloc (.cells #[.int .i64 zo',.int .i64 za,.int .i64 zb',.int .i64 zn,.int .u64 zm] 25)=wf:=⟨_,rfl⟩
    have HXf:Hid (InsAt wf X 0 ⟨2,xa,xb,xn,xm⟩):=by rw[←hwf];exact hd' (HXe.out.below ((Below.refl we.heap.size we).alloc (lR' _) _) lXe)
    have HZf:Hid (InsAt wf F 0 ⟨zo',za,zb',zn,zm⟩):=by rw[←hwf,←hF];exact hd' (ins_of_row (heap_alloc_new we _))
    have HBf:Hid (Below w.heap.size w wf):=by rw[←hwf];exact hd' (HBe.out.alloc HBe.out.size _)
    have HMf:Hid (MvIn wf w.heap.size mv0):=by rw[←hwf];exact hd' (CellsAt.alloc HMe.out _)
    have hFw:w.heap.size<F:=by rw[←hF];exact CellsAt.blk HMe.out
    rw[hF,hwf];clear hF hwf;have hzr:0≤zb'∧zb'≤7∧1≤zn∧zn≤8∧zb'+zn≤8∧0≤zm∧zm≤18446744073709551615:=hzr;obtain⟨hs1,hs2⟩:=hsb;obtain⟨hz1,hz2,hz3,hz4,hz5,hz6,hz7⟩:=hzr
    have HLOW:Hid (∀W,Calls Tryz.prog 93 #[.int .u64 zm,.int .i64 zn] W fun e w'=>e= .returned (.int .u64 (B.lowBits zm.toNat zn.toNat:Nat))∧w'=W):=by
     refine hd' (fun W=> ?_);have:=flow_any zm.toNat zn.toNat W (by omega) (by omega);rw[Int.toNat_of_nonneg hz6,Int.toNat_of_nonneg (by omega)]at this;exact this
    have lXf:X<wf.heap.size:=by have:=CellsAt.blk HMf.out;exact World.block_lt_of_cell? wf ⟨X,0,none⟩ HXf.out.c0
    have lFf:F<wf.heap.size:=World.block_lt_of_cell? wf ⟨F,0,none⟩ HZf.out.c0;obtain⟨m,hm⟩:∃m:B.Mv,m=⟨true,xa,xb,8*zb'+s,zb'.toNat,(zb'+zn).toNat,B.lowBits zm.toNat zn.toNat,r.length+2-rr.length⟩:=⟨_,rfl⟩
    have HC:Hid ((#[.bool true,.int .i64 xa,.int .i64 xb,.int .i64 (8*zb'+s),.int .i64 zb',.int .i64 (zb'+zn),.int .u64 (B.lowBits zm.toNat zn.toNat:Nat),.int .i64 ((len:Int)-((rr.length:Int)+1)+1)]:Array Value)=mvF m):=by
     have hlr:len=r.length+2:=HP.out.len;refine hd' ?_;rw[hm];unfold mvF;simp only[Int.toNat_of_nonneg hz1,Int.toNat_of_nonneg (show 0≤zb'+zn by omega)];rw[show((r.length+2-rr.length:Nat):Int)=(len:Int)-((rr.length:Int)+1)+1 by omega]
    have HMN:=hd' (MvIn.store (CellsAt.drew HMf.out 1) m);have HSN:=hd' (Below.stored (belowN HBf.out 1) (by have:=HBf.out.size;simpa using this) (mvF m).toList);rw[←hm]at hro;clear hm;refine wp_region_held_drew (S:=fun w'=>InsAt w' X 0 ⟨2,xa,xb,xn,xm⟩∧InsAt w' F 0 ⟨zo',za,zb',zn,zm⟩) (by kernel_rfl) ⟨⟨HXf.out.c0,HXf.out.c1,HXf.out.c2,HXf.out.c3,HXf.out.c4⟩,⟨HZf.out.c0,HZf.out.c1,HZf.out.c2,HZf.out.c3,HZf.out.c4⟩⟩ (fun hS1=> ?_);refine takeS (i:=0) (d:=63) (v:=.pointer (some ⟨X,1,none⟩)) rfl rfl rfl (by kernel_rfl) (by kernel_rfl) (by kernel_rfl) (fun _ _ _ h=>h) (fun w' _=>by(go_simp)) hS1 ?_;simp only[Act.put,sA',sZ',sS'];refine takeS (i:=1) (d:=64) (v:=.int .i64 xa) rfl rfl rfl (by kernel_rfl) (by kernel_rfl) (by kernel_rfl) (fun _ _ _ h=>h) (fun w' hw=>by(have c:=hw.1.c1;simp only[Nat.zero_add]at c;go_simp)) hS1 ?_;simp only[Act.put,sA',sZ',sS']
    refine takeS (i:=2) (d:=65) (v:=.pointer (some ⟨X,2,none⟩)) rfl rfl rfl (by kernel_rfl) (by kernel_rfl) (by kernel_rfl) (fun _ _ _ h=>h) (fun w' _=>by(go_simp)) hS1 ?_;simp only[Act.put,sA',sZ',sS'];refine takeS (i:=3) (d:=66) (v:=.int .i64 xb) rfl rfl rfl (by kernel_rfl) (by kernel_rfl) (by kernel_rfl) (fun _ _ _ h=>h) (fun w' hw=>by(have c:=hw.1.c2;simp only[Nat.zero_add]at c;go_simp)) hS1 ?_;simp only[Act.put,sA',sZ',sS'];refine takeS (i:=4) (d:=67) (v:=.pointer (some ⟨F,2,none⟩)) rfl rfl rfl (by kernel_rfl) (by kernel_rfl) (by kernel_rfl) (fun _ _ _ h=>h) (fun w' _=>by(go_simp)) hS1 ?_;simp only[Act.put,sA',sZ',sS'];refine takeS (i:=5) (d:=68) (v:=.int .i64 zb') rfl rfl rfl (by kernel_rfl) (by kernel_rfl) (by kernel_rfl) (fun _ _ _ h=>h) (fun w' hw=>by(have c:=hw.2.c2;simp only[Nat.zero_add]at c;go_simp)) hS1 ?_;simp only[Act.put,sA',sZ',sS']
    refine takeS (i:=6) (d:=69) (v:=.int .i64 (8*zb')) rfl rfl rfl (by kernel_rfl) (by kernel_rfl) (by kernel_rfl) (fun _ _ _ h=>h) (fun w' _=>by(go_simp;exact IntWalk.i64_in _ (by omega))) hS1 ?_;simp only[Act.put,sA',sZ',sS'];refine takeS (i:=7) (d:=70) (v:=.int .i64 s) rfl rfl rfl (by kernel_rfl) (by kernel_rfl) (by kernel_rfl) (fun _ _ _ h=>h) (fun w' _=>by(go_simp)) hS1 ?_;simp only[Act.put,sA',sZ',sS'];refine takeS (i:=8) (d:=71) (v:=.int .i64 (8*zb'+s)) rfl rfl rfl (by kernel_rfl) (by kernel_rfl) (by kernel_rfl) (fun _ _ _ h=>h) (fun w' _=>by(go_simp;exact IntWalk.i64_in _ (by omega))) hS1 ?_;simp only[Act.put,sA',sZ',sS'];refine takeS (i:=9) (d:=72) (v:=(.agg #[.bool true,.int .i64 xa,.int .i64 xb,.int .i64 (8*zb'+s)])) rfl rfl rfl (by kernel_rfl) (by kernel_rfl) (by kernel_rfl) (fun _ _ _ h=>h) (fun w' _=>by(go_simp)) hS1 ?_;simp only[Act.put,sA',sZ',sS']
    refine takeS (i:=10) (d:=73) (v:=.pointer (some ⟨F,2,none⟩)) rfl rfl rfl (by kernel_rfl) (by kernel_rfl) (by kernel_rfl) (fun _ _ _ h=>h) (fun w' _=>by(go_simp)) hS1 ?_;simp only[Act.put,sA',sZ',sS'];refine takeS (i:=11) (d:=74) (v:=.int .i64 zb') rfl rfl rfl (by kernel_rfl) (by kernel_rfl) (by kernel_rfl) (fun _ _ _ h=>h) (fun w' hw=>by(have c:=hw.2.c2;simp only[Nat.zero_add]at c;go_simp)) hS1 ?_;simp only[Act.put,sA',sZ',sS'];refine takeS (i:=12) (d:=75) (v:=.pointer (some ⟨F,2,none⟩)) rfl rfl rfl (by kernel_rfl) (by kernel_rfl) (by kernel_rfl) (fun _ _ _ h=>h) (fun w' _=>by(go_simp)) hS1 ?_;simp only[Act.put,sA',sZ',sS'];refine takeS (i:=13) (d:=76) (v:=.int .i64 zb') rfl rfl rfl (by kernel_rfl) (by kernel_rfl) (by kernel_rfl) (fun _ _ _ h=>h) (fun w' hw=>by(have c:=hw.2.c2;simp only[Nat.zero_add]at c;go_simp)) hS1 ?_;simp only[Act.put,sA',sZ',sS']
    refine takeS (i:=14) (d:=77) (v:=.pointer (some ⟨F,3,none⟩)) rfl rfl rfl (by kernel_rfl) (by kernel_rfl) (by kernel_rfl) (fun _ _ _ h=>h) (fun w' _=>by(go_simp)) hS1 ?_;simp only[Act.put,sA',sZ',sS'];refine takeS (i:=15) (d:=78) (v:=.int .i64 zn) rfl rfl rfl (by kernel_rfl) (by kernel_rfl) (by kernel_rfl) (fun _ _ _ h=>h) (fun w' hw=>by(have c:=hw.2.c3;simp only[Nat.zero_add]at c;go_simp)) hS1 ?_;simp only[Act.put,sA',sZ',sS'];refine takeS (i:=16) (d:=79) (v:=.int .i64 (zb'+zn)) rfl rfl rfl (by kernel_rfl) (by kernel_rfl) (by kernel_rfl) (fun _ _ _ h=>h) (fun w' _=>by(go_simp;exact IntWalk.i64_in _ (by omega))) hS1 ?_;simp only[Act.put,sA',sZ',sS'];refine takeS (i:=17) (d:=80) (v:=.pointer (some ⟨F,4,none⟩)) rfl rfl rfl (by kernel_rfl) (by kernel_rfl) (by kernel_rfl) (fun _ _ _ h=>h) (fun w' _=>by(go_simp)) hS1 ?_;simp only[Act.put,sA',sZ',sS']
    refine takeS (i:=18) (d:=81) (v:=.int .u64 zm) rfl rfl rfl (by kernel_rfl) (by kernel_rfl) (by kernel_rfl) (fun _ _ _ h=>h) (fun w' hw=>by(have c:=hw.2.c4;simp only[Nat.zero_add]at c;go_simp)) hS1 ?_;simp only[Act.put,sA',sZ',sS'];refine takeS (i:=19) (d:=82) (v:=.pointer (some ⟨F,3,none⟩)) rfl rfl rfl (by kernel_rfl) (by kernel_rfl) (by kernel_rfl) (fun _ _ _ h=>h) (fun w' _=>by(go_simp)) hS1 ?_;simp only[Act.put,sA',sZ',sS'];refine takeS (i:=20) (d:=83) (v:=.int .i64 zn) rfl rfl rfl (by kernel_rfl) (by kernel_rfl) (by kernel_rfl) (fun _ _ _ h=>h) (fun w' hw=>by(have c:=hw.2.c3;simp only[Nat.zero_add]at c;go_simp)) hS1 ?_;simp only[Act.put,sA',sZ',sS'];refine takeS (i:=22) (d:=85) (v:=.slice (some ⟨b,off,none⟩) len cap) rfl rfl rfl (by kernel_rfl) (by kernel_rfl) (by kernel_rfl) (fun _ _ _ h=>h) (fun w' _=>by(go_simp)) hS1 ?_;simp only[Act.put,sA',sZ',sS']
    refine takeS (i:=23) (d:=86) (v:=.int .i64 (len:Int)) rfl rfl rfl (by kernel_rfl) (by kernel_rfl) (by kernel_rfl) (fun _ _ _ h=>h) (fun w' _=>by(go_simp)) hS1 ?_;simp only[Act.put,sA',sZ',sS'];refine takeS (i:=24) (d:=87) (v:=.slice (some ⟨zb,zo,none⟩) (rr.length+1) rc) rfl rfl rfl (by kernel_rfl) (by kernel_rfl) (by kernel_rfl) (fun _ _ _ h=>h) (fun w' _=>by(go_simp)) hS1 ?_;simp only[Act.put,sA',sZ',sS'];refine takeS (i:=25) (d:=88) (v:=.int .i64 ((rr.length:Int)+1)) rfl rfl rfl (by kernel_rfl) (by kernel_rfl) (by kernel_rfl) (fun _ _ _ h=>h) (fun w' _=>by(go_simp)) hS1 ?_;simp only[Act.put,sA',sZ',sS'];refine takeS (i:=26) (d:=89) (v:=.int .i64 ((len:Int)-((rr.length:Int)+1))) rfl rfl rfl (by kernel_rfl) (by kernel_rfl) (by kernel_rfl) (fun _ _ _ h=>h) (fun w' _=>by(go_simp;exact IntWalk.i64_in _ (by omega))) hS1 ?_;simp only[Act.put,sA',sZ',sS']
    refine takeS (i:=27) (d:=90) (v:=.int .i64 ((len:Int)-((rr.length:Int)+1)+1)) rfl rfl rfl (by kernel_rfl) (by kernel_rfl) (by kernel_rfl) (fun _ _ _ h=>h) (fun w' _=>by(go_simp;exact IntWalk.i64_in _ (by omega))) hS1 ?_;simp only[Act.put,sA',sZ',sS'];refine wpAnyH_ready (rs:=[21]) (by kernel_rfl) (by simp) ?_;refine AllReadyH.cons rfl (fun K hK=> ?_) AllReadyH.nil;go_simp;refine(HLOW.out _).mono ?_;rintro e w4 ⟨rfl,rfl⟩;refine hK.out _ _ hS1 (fun hS2=> ?_);clear hK K;refine takeS (i:=28) (d:=91) (v:=.agg #[.bool true,.int .i64 xa,.int .i64 xb,.int .i64 (8*zb'+s),.int .i64 zb',.int .i64 (zb'+zn),.int .u64 (B.lowBits zm.toNat zn.toNat:Nat),.int .i64 ((len:Int)-((rr.length:Int)+1)+1)]) rfl rfl rfl (by kernel_rfl) (by kernel_rfl) (by kernel_rfl) (fun _ _ _ h=>h) (fun w' _=>by go_simp) hS2 ?_;simp only[Act.put,sA',sZ',sS'];refine wpAnyH_ready (rs:=[29]) (by kernel_rfl) (by simp) ?_
    refine AllReadyH.cons rfl (fun K hK=> ?_) AllReadyH.nil;rw[if_pos (by rfl)];refine wp_store_mid 60 _ _ (by rfl) w.heap.size 0 #[.bool true,.int .i64 xa,.int .i64 xb,.int .i64 (8*zb'+s),.int .i64 zb',.int .i64 (zb'+zn),.int .u64 (B.lowBits zm.toNat zn.toNat:Nat),.int .i64 ((len:Int)-((rr.length:Int)+1)+1)] (by rfl) (by rfl) (show _ from CellsAt.there (o:=0) (m:=8) (CellsAt.drew HMf.out 1) (by omega)) (by rw[info60];rfl) (by simp[Value.oneCell']) ?_;rw[HC.out];refine hK.out _ _ ⟨InsAt.stored hS2.1 (by simpa using lXf) (by omega) _,InsAt.stored hS2.2 (by simpa using lFf) (by omega) _⟩ (fun hS3=> ?_);clear hK K;refine wpAnyH_ready (rs:=[30]) (by kernel_rfl) (by simp) ?_;refine AllReadyH.cons rfl (fun K hK=> ?_) AllReadyH.nil;go_simp;refine hK.out _ _ hS3 (fun hS4=> ?_);clear hK K;refine wpAnyH_done (by kernel_rfl) ?_ _;go_wp2_with fail
    refine bodyPost_ret (v:=.tuple #[.agg (mvF m),.bool true]) ?_ rfl ?_
    ·exact ret_mv (p:=2) (u:=3) (by kernel_rfl) (by rfl) (by rfl) HMN.out
    ·exact⟨by rw[←hro];rfl,HSN.out⟩
   ·rw[if_neg (fun h=>hza h.2)]at hro
    obtain rfl:ro=none:=hro.symm
    have q1:(z.op !=13)=false:=by simpa using h13
    have q2:(z.a !=xa)=true:=by simpa using hza
    clear hro hza h13
    go_upto_region 40 with fail
    go_big_quiet (fail)
    have HSn:=hd' (Below.stored (belowN HBd.out nq) (by have:=HBd.out.size;simpa using this) (mvF mv0).toList);have HMn:=hd' (MvIn.store (CellsAt.drew HMd.out nq) mv0);have HTn:=hd' (CellsAt.there (CellsAt.drew HMd.out nq) (o:=0) (m:=8) (by omega));go_wp2_with (refine wpList_store_mid (by rfl) 60 _ _ (by rfl) w.heap.size 0 (mvF mv0) (by rfl) (by rfl) HTn.out (by rw[info60];rfl) (mvF_ones _) ?_);refine bodyPost_ret (v:=.tuple #[.agg (mvF mv0),.bool false]) ?_ rfl ?_
    ·exact ret_mv (p:=2) (u:=3) (by kernel_rfl) (by rfl) (by rfl) HMn.out
    ·exact⟨rfl,HSn.out⟩
  ·rw[if_neg (fun h=>h13 h.1)]at hro
   obtain rfl:ro=none:=hro.symm
   have q1:(z.op !=13)=true:=by simpa using h13
   clear hro h13
   go_upto_region 40 with fail
   go_big_quiet (fail)
   have HSn:=hd' (Below.stored (belowN HBd.out nq) (by have:=HBd.out.size;simpa using this) (mvF mv0).toList);have HMn:=hd' (MvIn.store (CellsAt.drew HMd.out nq) mv0);have HTn:=hd' (CellsAt.there (CellsAt.drew HMd.out nq) (o:=0) (m:=8) (by omega));go_wp2_with (refine wpList_store_mid (by rfl) 60 _ _ (by rfl) w.heap.size 0 (mvF mv0) (by rfl) (by rfl) HTn.out (by rw[info60];rfl) (mvF_ones _) ?_);refine bodyPost_ret (v:=.tuple #[.agg (mvF mv0),.bool false]) ?_ rfl ?_
   ·exact ret_mv (p:=2) (u:=3) (by kernel_rfl) (by rfl) (by rfl) HMn.out
   ·exact⟨rfl,HSn.out⟩
end Code
end Go.Proofs.YtpibampaobncaaaGreatDoor
namespace Go.Proofs.YtpibampaobncaaaGreatDoor
open Go.RowKit
namespace Code
attribute [local go_sem ↓] Go.wp_at_zero Go.wp_at_succ
set_option maxRecDepth 100000 in
set_option maxHeartbeats 3200000 in
theorem read_out(a:Option Addr)(len cap:Nat)(x y:B.Ins)(r:List B.Ins)(w:World)(hp:ProgAt w a len (x::y::r))(hc:len≤cap)(hw:∀u∈x::y::r,u.right=true)(hl:len≤1000000)(h2:¬len<2)(hA:¬(x.op=2∧x.a≠x.b))(hB:x.op=9∧y.op=8∧y.a=x.a):
    Calls Tryz.prog 70 #[.slice a len cap] w (FReadOut (x::y::r) w):=by
 unfold FReadOut;obtain⟨b,off,rfl,hb,hi⟩:=hp.at_ 0 x rfl;obtain⟨b',off',hb',_,hi'⟩:=hp.at_ 1 y rfl;simp only[Option.some.injEq,Addr.mk.injEq,and_true]at hb';obtain⟨rfl,rfl⟩:=hb'
 have HX : Hid (InsAt w b off x) := by have : InsAt w b off x := by simpa using hi
                                       exact hd' this
 have HY : Hid (InsAt w b (off + 5) y) := by have : InsAt w b (off + 5) y := by simpa using hi'
                                             exact hd' this
 obtain⟨ro,hro⟩:∃ro,B.readMv (x::y::r)=ro:=⟨_,rfl⟩;rw[hro];have HP:=hd' hp;have HWR:=hd' hw;obtain⟨w1,hw1⟩:∃w1,w.alloc (.cells (mvF mv0) 60)=w1:=⟨_,rfl⟩
 have hz1:w1.heap.size=w.heap.size+1:=by rw[←hw1];simp
 have HB1:Hid (Below w.heap.size w w1):=by rw[←hw1];exact hd' ((Below.refl _ _).alloc (lR' _) _)
 have HM1:Hid (MvIn w1 w.heap.size mv0):=by rw[←hw1];exact hd' (MvIn.new mv0 w)
 clear hp hw hi hi';go_enter Tryz.func70,Tryz.ntmps70
 go_upto_region 15 with fail
 have hw1':w.alloc (.cells #[.bool false,.int .i64 0,.int .i64 0,.int .i64 0,.int .i64 0,.int .i64 0,.int .u64 0,.int .i64 0] 60)=w1:=hw1;rw[hw1'];clear hw1 hw1'
 go_cut [4,5]from 15 to 21 (fun p q wx=>∃X Y:Nat,p= .pointer (some ⟨X,0,none⟩)∧q= .pointer (some ⟨Y,0,none⟩)∧InsAt wx X 0 x∧InsAt wx Y 0 y∧w.heap.size<X∧w.heap.size<Y∧X≠Y∧X<wx.heap.size∧Y<wx.heap.size∧Below (w.heap.size+1) w1 wx)
 case first=>
  have HXn:=hd' (HX.out.below HB1.out hb);have HYn:=hd' (HY.out.below HB1.out hb)
  have hb1:b<w.heap.size+1:=by omega
  refine wp_region_held_drew (S:=Below (w.heap.size+1) w1) (by kernel_rfl) (Below.refl _ _).drew (fun hS1=> ?_);refine takeS (i:=0) (d:=15) (v:=.slice (some ⟨b,off,none⟩) len cap) rfl rfl rfl (by kernel_rfl) (by kernel_rfl) (by kernel_rfl) (fun _ _ _ h=>h) (fun w' _=>by go_simp) hS1 ?_;simp only[Act.put,sA',sZ',sS'];refine takeS (i:=1) (d:=16) (v:=.pointer (some ⟨b,off,none⟩)) rfl rfl rfl (by kernel_rfl) (by kernel_rfl) (by kernel_rfl) (fun _ _ _ h=>h) (fun w' _=>by(go_simp;intro hq;omega)) hS1 ?_;simp only[Act.put,sA',sZ',sS'];refine takeM (i:=2) (d:=17) 25 _ b off (cellsI x).toArray _ rfl rfl rfl rfl (by rfl) Tryz.underlying25 rfl (by kernel_rfl) (by kernel_rfl) (by kernel_rfl) (by kernel_rfl) (fun _ _ _ h=>h) (fun w' h=>ins_range (HXn.out.below h hb1)) hS1 ?_;simp only[Act.put,sA',sZ',sS']
  refine takeS (i:=3) (d:=18) (v:=.slice (some ⟨b,off,none⟩) len cap) rfl rfl rfl (by kernel_rfl) (by kernel_rfl) (by kernel_rfl) (fun _ _ _ h=>h) (fun w' _=>by go_simp) hS1 ?_;simp only[Act.put,sA',sZ',sS'];refine takeS (i:=4) (d:=19) (v:=.pointer (some ⟨b,off+5,none⟩)) rfl rfl rfl (by kernel_rfl) (by kernel_rfl) (by kernel_rfl) (fun _ _ _ h=>h) (fun w' _=>by(go_simp;intro hq;omega)) hS1 ?_;simp only[Act.put,sA',sZ',sS'];refine takeM (i:=5) (d:=20) 25 _ b (off+5) (cellsI y).toArray _ rfl rfl rfl rfl (by rfl) Tryz.underlying25 rfl (by kernel_rfl) (by kernel_rfl) (by kernel_rfl) (by kernel_rfl) (fun _ _ _ h=>h) (fun w' h=>ins_range (HYn.out.below h hb1)) hS1 ?_;simp only[Act.put,sA',sZ',sS'];have hs1:=hS1.size;refine wpAnyH_ready (rs:=[6,7]) (by kernel_rfl) (by simp) ?_;refine AllReadyH.cons rfl (fun K hK=> ?_) (AllReadyH.cons rfl (fun K hK=> ?_) AllReadyH.nil)
  ·refine step_box (by rfl) (by rfl) (base:=w.heap.size+1) (by omega) ?_
   intro X w2 hX hXb hb2;refine hK.out _ _ (hS1.trans hb2) (fun hS2=> ?_);clear hK K;have hs2:=hS2.size;have hlt:=lt_of_block hX;refine wpAnyH_ready (rs:=[7]) (by kernel_rfl) (by simp) ?_;refine AllReadyH.cons rfl (fun K hK=> ?_) AllReadyH.nil;refine step_box (by rfl) (by rfl) (base:=w2.heap.size) (lR' _) ?_;intro Y w3 hY hYb hb3;refine hK.out _ _ (hS2.trans (hb3.mono (by omega))) (fun hS3=> ?_);clear hK K;have hs3:=hS3.size
   have hne:X≠Y:=by omega
   have hX3:=(hb3.block X hlt).trans hX;refine wpAnyH_ready (rs:=[8]) (by kernel_rfl) (by simp) ?_;refine AllReadyH.cons rfl (fun K hK=> ?_) AllReadyH.nil;refine step_ins (by rfl) _ _ (by rfl) (G:=X) (base:=w.heap.size+1) (by rfl) (by rfl) hX3 (by omega) (by simp[Value.oneCell']) ?_;intro w4 hX4 hk4 hb4;refine hK.out _ _ (hS3.trans hb4) (fun hS4=> ?_);clear hK K;have hY4:=(hk4 Y (Ne.symm hne)).trans hY;refine wpAnyH_ready (rs:=[9]) (by kernel_rfl) (by simp) ?_;refine AllReadyH.cons rfl (fun K hK=> ?_) AllReadyH.nil;refine step_ins (by rfl) _ _ (by rfl) (G:=Y) (base:=w.heap.size+1) (by rfl) (by rfl) hY4 (by omega) (by simp[Value.oneCell']) ?_;intro w5 hY5 hk5 hb5;refine hK.out _ _ (hS4.trans hb5) (fun hS5=> ?_);clear hK K;have hX5:=(hk5 X hne).trans hX4;refine wpAnyH_done (by kernel_rfl) ?_ _;go_wp2_with fail;go_meet
   exact⟨X,Y,rfl,rfl,ins_of_row hX5,ins_of_row hY5,by omega,by omega,hne,lt_of_block hX5,lt_of_block hY5,hS5⟩
  ·refine step_box (by rfl) (by rfl) (base:=w.heap.size+1) (by omega) ?_
   intro Y w2 hY hYb hb2;refine hK.out _ _ (hS1.trans hb2) (fun hS2=> ?_);clear hK K;have hs2:=hS2.size;have hlt:=lt_of_block hY;refine wpAnyH_ready (rs:=[6]) (by kernel_rfl) (by simp) ?_;refine AllReadyH.cons rfl (fun K hK=> ?_) AllReadyH.nil;refine step_box (by rfl) (by rfl) (base:=w2.heap.size) (lR' _) ?_;intro X w3 hX hXb hb3;refine hK.out _ _ (hS2.trans (hb3.mono (by omega))) (fun hS3=> ?_);clear hK K;have hs3:=hS3.size
   have hne:X≠Y:=by omega
   have hY3:=(hb3.block Y hlt).trans hY;refine wpAnyH_ready (rs:=[8]) (by kernel_rfl) (by simp) ?_;refine AllReadyH.cons rfl (fun K hK=> ?_) AllReadyH.nil;refine step_ins (by rfl) _ _ (by rfl) (G:=X) (base:=w.heap.size+1) (by rfl) (by rfl) hX (by omega) (by simp[Value.oneCell']) ?_;intro w4 hX4 hk4 hb4;refine hK.out _ _ (hS3.trans hb4) (fun hS4=> ?_);clear hK K;have hY4:=(hk4 Y (Ne.symm hne)).trans hY3;refine wpAnyH_ready (rs:=[9]) (by kernel_rfl) (by simp) ?_;refine AllReadyH.cons rfl (fun K hK=> ?_) AllReadyH.nil;refine step_ins (by rfl) _ _ (by rfl) (G:=Y) (base:=w.heap.size+1) (by rfl) (by rfl) hY4 (by omega) (by simp[Value.oneCell']) ?_;intro w5 hY5 hk5 hb5;refine hK.out _ _ (hS4.trans hb5) (fun hS5=> ?_);clear hK K;have hX5:=(hk5 X hne).trans hX4;refine wpAnyH_done (by kernel_rfl) ?_ _;go_wp2_with fail;go_meet
   exact⟨X,Y,rfl,rfl,ins_of_row hX5,ins_of_row hY5,by omega,by omega,hne,lt_of_block hX5,lt_of_block hY5,hS5⟩
 obtain⟨X,Y,rfl,rfl,hiX,hiY,gX,gY,hXY,lX,lY,hbc⟩:=hcut;have HMc:=hd' (CellsAt.below HM1.out hbc (by omega));have HT:=hd' (CellsAt.there HMc.out (o:=0) (m:=8) (by omega));have HBc:=hd' (HB1.out.trans (hbc.mono (by omega)));have HS0:=hd' (Below.stored HBc.out HBc.out.size (mvF mv0).toList);have HMS0:=hd' (MvIn.store HMc.out mv0);have HBCN:=hd' hbc;have HXC:=hd' hiX;have HYC:=hd' hiY;have c0:=hiX.c0;have c1:=hiX.c1;have c2:=hiX.c2;have d0:=hiY.c0;have d1:=hiY.c1;clear hiX hiY hbc
 by_cases hc2:cap=2
 ·have hr:r=[]:=by have:=HP.out.len;simp at this;exact List.length_eq_zero_iff.1 (by omega)
  obtain rfl:len=2:=by omega
  subst hc2 hr
  have HSH:Hid (∀n,Calls Tryz.prog 92 #[.slice (some ⟨b,off,none⟩) 0 0,.int .i64 x.a] (wc.drewN n) fun e w'=>e= .returned (.tuple #[.int .i64 0,.slice (some ⟨b,off,none⟩) 0 0])∧∃m,w'=(wc.drewN n).drewN m):=
   hd' (fun n=>shift_any (some ⟨b,off,none⟩) 0 0 [] x.a (wc.drewN n) ⟨rfl,fun i x h=>by simp at h⟩ (lR' _) (by simp) (by omega))
  obtain⟨hA1,hB2,hB3⟩:=hB;rw[B.readMv_cons,if_neg hA,if_pos ⟨hA1,hB2,hB3⟩]at hro;obtain rfl:ro=none:=hro.symm;obtain⟨o,xa,xb,xn,xm⟩:=x;obtain⟨p,ya,yb,yn,ym⟩:=y;simp only at c0 c1 c2 d0 d1 HSH hA1 hB2 hB3;have hB4:=hB3.symm;clear hB3 hro;subst hA1 hB2 hB4;clear hA
  go_upto_region 109 with fail
  go_quiet (exact Calls.quiet_of (HSH.out _))
  obtain⟨wd,hwd⟩:∃wd,wc.drewN nq=wd:=⟨_,rfl⟩
  have HBd:Hid (Below w.heap.size w wd):=by rw[←hwd];exact hd' (belowN HBc.out _)
  have HMd:Hid (MvIn wd w.heap.size mv0):=by rw[←hwd];exact hd' (CellsAt.drew HMc.out _)
  rw[hwd];clear hwd HSH c0 c1 c2 d0 d1
  go_upto_region 116 with fail
  go_big_quiet (fail)
  have HSn:=hd' (Below.stored (belowN HBd.out nq) (by have:=HBd.out.size;simpa using this) (mvF mv0).toList);have HMn:=hd' (MvIn.store (CellsAt.drew HMd.out nq) mv0);have HTn:=hd' (CellsAt.there (CellsAt.drew HMd.out nq) (o:=0) (m:=8) (by omega));go_wp2_with (refine wpList_store_mid (by rfl) 60 _ _ (by rfl) w.heap.size 0 (mvF mv0) (by rfl) (by rfl) HTn.out (by rw[info60];rfl) (mvF_ones _) ?_);refine bodyPost_ret (v:=.tuple #[.agg (mvF mv0),.bool false]) ?_ rfl ?_
  ·exact ret_mv (p:=2) (u:=3) (by kernel_rfl) (by rfl) (by rfl) HMn.out
  ·exact⟨rfl,HSn.out⟩
 ·have hcap:¬cap=2:=hc2
  have HPs:Hid (ProgAt w (some ⟨b,off+10,none⟩) (len-2) r):=by
   have:=ProgAt.rest HP.out hc 2;unfold sliceFrom at this;rw[if_neg hcap]at this;exact hd' this
  have HWY:Hid (∀u∈r,u.right=true):=hd' (fun u hu=>HWR.out u (List.mem_cons_of_mem _ (List.mem_cons_of_mem _ hu)));obtain⟨ra,rn,rc,hrv,hrp,hrc,hrl⟩:=rest_at HPs.out (show len-2≤cap-2 by omega) x.a;obtain⟨sh,hsh⟩:∃sh,B.shiftOf x.a r=sh:=⟨_,rfl⟩;rw[hsh]at hrp
  have HSB:Hid ((-63≤sh.1∧sh.1≤63)∧∀u∈sh.2,u.right=true):=by
   obtain⟨s1,h1,h2⟩:=B.shiftOf_sh x.a r;rw[hsh]at h1 h2
   have hs:∀u∈s1,u.right=true:=fun u hu=>HWY.out u (by rw[h1];exact List.mem_append_left _ hu)
   exact hd' ⟨B.sh_bounds h2 hs,fun u hu=>HWY.out u (by rw[h1];exact List.mem_append_right _ hu)⟩
  have HSH:Hid (∀n,Calls Tryz.prog 92 #[.slice (some ⟨b,off+10,none⟩) (len-2) (cap-2),.int .i64 x.a] (wc.drewN n) fun e w'=>e= .returned (.tuple #[.int .i64 sh.1,.slice ra rn rc])∧∃m,w'=(wc.drewN n).drewN m):=by
   refine hd' (fun n=> ?_);have:=shift_any (some ⟨b,off+10,none⟩) (len-2) (cap-2) r x.a (wc.drewN n) (HPs.out.below (belowN HBc.out n) (lR' _)) (by omega) HWY.out (by omega);rw[hsh,hrv]at this;exact this
  obtain⟨hA1,hB2,hB3⟩:=hB;have hlenl:(len:Int)=len:=rfl
  have k1:(2:Int)≤(len:Int):=by omega
  have HRP:=hd' hrp;rw[B.readMv_cons,if_neg hA,if_pos ⟨hA1,hB2,hB3⟩,hsh]at hro;obtain⟨o,xa,xb,xn,xm⟩:=x;obtain⟨p,ya,yb,yn,ym⟩:=y;simp only at c0 c1 c2 d0 d1 HSH hro hA1 hB2 hB3;have hB4:=hB3.symm;clear hB3;subst hA1 hB2 hB4;clear hA hrv hrp hsh
  go_upto_region 109 with fail
  go_quiet (exact Calls.quiet_of (HSH.out _))
  obtain⟨wd,hwd⟩:∃wd,wc.drewN nq=wd:=⟨_,rfl⟩
  have HBd:Hid (Below w.heap.size w wd):=by rw[←hwd];exact hd' (belowN HBc.out _)
  have HMd:Hid (MvIn wd w.heap.size mv0):=by rw[←hwd];exact hd' (CellsAt.drew HMc.out _)
  have HXd:Hid (InsAt wd X 0 ⟨9,xa,xb,xn,xm⟩):=by rw[←hwd];exact hd' (HXC.out.below (belowN (Below.refl wc.heap.size wc) nq) lX)
  have HYd:Hid (InsAt wd Y 0 ⟨8,xa,yb,yn,ym⟩):=by rw[←hwd];exact hd' (HYC.out.below (belowN (Below.refl wc.heap.size wc) nq) lY)
  have lYd:Y<wd.heap.size:=by rw[←hwd];simpa using lY
  have lXd:X<wd.heap.size:=by rw[←hwd];simpa using lX
  rw[hwd];clear hwd HSH c0 c1 c2 d0 d1;obtain⟨s,l2⟩:=sh;have HRd:Hid (ProgAt wd ra rn l2):=hd' (HRP.out.below HBd.out (lR' _));simp only at hro⊢;have c1:=HXd.out.c1;simp only at c1
  cases l2 with
  | nil=>
   obtain rfl:ro=none:=hro.symm;obtain rfl:rn=0:=HRd.out.len;clear hro
   go_upto_region 116 with fail
   go_big_quiet (fail)
   have HSn:=hd' (Below.stored (belowN HBd.out nq) (by have:=HBd.out.size;simpa using this) (mvF mv0).toList);have HMn:=hd' (MvIn.store (CellsAt.drew HMd.out nq) mv0);have HTn:=hd' (CellsAt.there (CellsAt.drew HMd.out nq) (o:=0) (m:=8) (by omega));go_wp2_with (refine wpList_store_mid (by rfl) 60 _ _ (by rfl) w.heap.size 0 (mvF mv0) (by rfl) (by rfl) HTn.out (by rw[info60];rfl) (mvF_ones _) ?_);refine bodyPost_ret (v:=.tuple #[.agg (mvF mv0),.bool false]) ?_ rfl ?_
   ·exact ret_mv (p:=2) (u:=3) (by kernel_rfl) (by rfl) (by rfl) HMn.out
   ·exact⟨rfl,HSn.out⟩
  | cons z rr=>
   obtain⟨zb,zo,rfl,lz,hz⟩:=HRd.out.at_ 0 z rfl;have hrn:rn=rr.length+1:=HRd.out.len
   have hz0:InsAt wd zb zo z:=by simpa using hz
   have HZ:=hd' hz0;have e0:=hz0.c0;have e1:=hz0.c1;have e2:=hz0.c2
   have q0:(((rr.length:Int)+1)==0)=false:=by simp;omega
   have kz:(0:Int)<(rr.length:Int)+1:=by omega
   clear hz hz0;simp only at hro
   by_cases h13:z.op=4
   ·by_cases hza:z.b=xa
    ·by_cases hzb:z.a=xa
     ·rw[if_neg (fun h=>h.2.2 hzb)]at hro
      obtain rfl:ro=none:=hro.symm
      have q1:(z.op !=4)=false:=by simpa using h13
      have q2:(z.b !=xa)=false:=by simpa using hza
      have q3:(z.a==xa)=true:=by simpa using hzb
      clear hro hza h13 hzb
      go_upto_region 116 with fail
      go_big_quiet (fail)
      have HSn:=hd' (Below.stored (belowN HBd.out nq) (by have:=HBd.out.size;simpa using this) (mvF mv0).toList);have HMn:=hd' (MvIn.store (CellsAt.drew HMd.out nq) mv0);have HTn:=hd' (CellsAt.there (CellsAt.drew HMd.out nq) (o:=0) (m:=8) (by omega));go_wp2_with (refine wpList_store_mid (by rfl) 60 _ _ (by rfl) w.heap.size 0 (mvF mv0) (by rfl) (by rfl) HTn.out (by rw[info60];rfl) (mvF_ones _) ?_);refine bodyPost_ret (v:=.tuple #[.agg (mvF mv0),.bool false]) ?_ rfl ?_
      ·exact ret_mv (p:=2) (u:=3) (by kernel_rfl) (by rfl) (by rfl) HMn.out
      ·exact⟨rfl,HSn.out⟩
     ·rw[if_pos ⟨h13,hza,hzb⟩]at hro
      have q1:(z.op !=4)=false:=by simpa using h13
      have q2:(z.b !=xa)=false:=by simpa using hza
      have q3:(z.a==xa)=false:=by simpa using hzb
      have hwx:=HWR.out ⟨9,xa,xb,xn,xm⟩ List.mem_cons_self;have hwy:=HWR.out ⟨8,xa,yb,yn,ym⟩ (List.mem_cons_of_mem _ List.mem_cons_self)
      have hxr:0≤xb∧xb≤7∧1≤xn∧xn≤8∧xb+xn≤8∧0≤ym∧ym≤18446744073709551615:=by
       simp[B.Ins.right,B.loN,B.hiN,B.hiB,B.hiImm]at hwx hwy;omega
      have hsb: -63≤s∧s≤63:=HSB.out.1
      have lzw:zb<w.heap.size:=by
       obtain⟨zb2,zo2,e,l,_⟩:=HRP.out.at_ 0 z rfl;simp only[Option.some.injEq,Addr.mk.injEq]at e;omega
      clear hwx hwy;obtain⟨zop,za,zxb,zn,zm⟩:=z;simp only at h13 hza hzb hro q1 q2 q3 e0 e1 e2;subst h13 hza;clear hzb
      go_upto_region 116 with fail
      go_big_quiet (fail)
      go_upto_region 145 with fail
      obtain⟨we,hwe⟩:∃we,wd.drewN nq=we:=⟨_,rfl⟩
      have HBe:Hid (Below w.heap.size w we):=by rw[←hwe];exact hd' (belowN HBd.out _)
      have HMe:Hid (MvIn we w.heap.size mv0):=by rw[←hwe];exact hd' (CellsAt.drew HMd.out _)
      have HXe:Hid (InsAt we X 0 ⟨9,zxb,xb,xn,xm⟩):=by rw[←hwe];exact hd' (HXd.out.below (belowN (Below.refl wd.heap.size wd) nq) lXd)
      have HYe:Hid (InsAt we Y 0 ⟨8,zxb,yb,yn,ym⟩):=by rw[←hwe];exact hd' (HYd.out.below (belowN (Below.refl wd.heap.size wd) nq) lYd)
      have HZe:Hid (InsAt we zb zo ⟨4,za,zxb,zn,zm⟩):=by rw[←hwe];exact hd' (HZ.out.below (belowN (Below.refl wd.heap.size wd) nq) (by have:=HBd.out.size;omega))
      have lXe:X<we.heap.size:=by rw[←hwe];simpa using lXd
      have lYe:Y<we.heap.size:=by rw[←hwe];simpa using lYd
      have lZe:zb<we.heap.size:=by have:=HBe.out.size;omega
      rw[hwe];clear hwe c1 e0 e1 e2 q1 q2 q3;obtain⟨hs1,hs2⟩:=hsb;obtain⟨hz1,hz2,hz3,hz4,hz5,hz6,hz7⟩:=hxr
      have HLOW:Hid (∀W,Calls Tryz.prog 93 #[.int .u64 ym,.int .i64 xn] W fun e w'=>e= .returned (.int .u64 (B.lowBits ym.toNat xn.toNat:Nat))∧w'=W):=by
       refine hd' (fun W=> ?_);have:=flow_any ym.toNat xn.toNat W (by omega) (by omega);rw[Int.toNat_of_nonneg hz6,Int.toNat_of_nonneg (by omega)]at this;exact this
      obtain⟨m,hm⟩:∃m:B.Mv,m=⟨false,zxb,za,s-8*xb,xb.toNat,(xb+xn).toNat,B.lowBits ym.toNat xn.toNat,r.length+2-rr.length⟩:=⟨_,rfl⟩
      have HC:Hid ((#[.bool false,.int .i64 zxb,.int .i64 za,.int .i64 (s-8*xb),.int .i64 xb,.int .i64 (xb+xn),.int .u64 (B.lowBits ym.toNat xn.toNat:Nat),.int .i64 ((len:Int)-((rr.length:Int)+1)+1)]:Array Value)=mvF m):=by
       have hlr:len=r.length+2:=HP.out.len;refine hd' ?_;rw[hm];unfold mvF;simp only[Int.toNat_of_nonneg hz1,Int.toNat_of_nonneg (show 0≤xb+xn by omega)];rw[show((r.length+2-rr.length:Nat):Int)=(len:Int)-((rr.length:Int)+1)+1 by omega]
      have HMN:=hd' (MvIn.store (CellsAt.drew HMe.out 1) m);have HSN:=hd' (Below.stored (belowN HBe.out 1) (by have:=HBe.out.size;simpa using this) (mvF m).toList);rw[←hm]at hro;clear hm;refine wp_region_held_drew (S:=(fun w'=>InsAt w' X 0 ⟨9,zxb,xb,xn,xm⟩∧InsAt w' Y 0 ⟨8,zxb,yb,yn,ym⟩∧InsAt w' zb zo ⟨4,za,zxb,zn,zm⟩)) (by kernel_rfl) ⟨⟨HXe.out.c0,HXe.out.c1,HXe.out.c2,HXe.out.c3,HXe.out.c4⟩,⟨HYe.out.c0,HYe.out.c1,HYe.out.c2,HYe.out.c3,HYe.out.c4⟩,⟨HZe.out.c0,HZe.out.c1,HZe.out.c2,HZe.out.c3,HZe.out.c4⟩⟩ (fun hS1=> ?_);refine takeS (i:=0) (d:=145) (v:=.pointer (some ⟨X,1,none⟩)) rfl rfl rfl (by kernel_rfl) (by kernel_rfl) (by kernel_rfl) (fun _ _ _ h=>h) (fun w' _=>by(go_simp)) hS1 ?_;simp only[Act.put,sA',sZ',sS']
      refine takeS (i:=1) (d:=146) (v:=.int .i64 zxb) rfl rfl rfl (by kernel_rfl) (by kernel_rfl) (by kernel_rfl) (fun _ _ _ h=>h) (fun w' hw=>by(have c:=hw.1.c1;simp only[Nat.zero_add]at c;go_simp)) hS1 ?_;simp only[Act.put,sA',sZ',sS'];refine takeS (i:=2) (d:=147) (v:=.slice (some ⟨zb,zo,none⟩) (rr.length+1) rc) rfl rfl rfl (by kernel_rfl) (by kernel_rfl) (by kernel_rfl) (fun _ _ _ h=>h) (fun w' _=>by(go_simp)) hS1 ?_;simp only[Act.put,sA',sZ',sS'];refine takeS (i:=3) (d:=148) (v:=.pointer (some ⟨zb,zo,none⟩)) rfl rfl rfl (by kernel_rfl) (by kernel_rfl) (by kernel_rfl) (fun _ _ _ h=>h) (fun w' _=>by(go_simp)) hS1 ?_;simp only[Act.put,sA',sZ',sS'];refine takeS (i:=4) (d:=149) (v:=.pointer (some ⟨zb,zo+1,none⟩)) rfl rfl rfl (by kernel_rfl) (by kernel_rfl) (by kernel_rfl) (fun _ _ _ h=>h) (fun w' _=>by(go_simp)) hS1 ?_;simp only[Act.put,sA',sZ',sS']
      refine takeS (i:=5) (d:=150) (v:=.int .i64 za) rfl rfl rfl (by kernel_rfl) (by kernel_rfl) (by kernel_rfl) (fun _ _ _ h=>h) (fun w' hw=>by(have c:=hw.2.2.c1;go_simp)) hS1 ?_;simp only[Act.put,sA',sZ',sS'];refine takeS (i:=6) (d:=151) (v:=.int .i64 s) rfl rfl rfl (by kernel_rfl) (by kernel_rfl) (by kernel_rfl) (fun _ _ _ h=>h) (fun w' _=>by(go_simp)) hS1 ?_;simp only[Act.put,sA',sZ',sS'];refine takeS (i:=7) (d:=152) (v:=.pointer (some ⟨X,2,none⟩)) rfl rfl rfl (by kernel_rfl) (by kernel_rfl) (by kernel_rfl) (fun _ _ _ h=>h) (fun w' _=>by(go_simp)) hS1 ?_;simp only[Act.put,sA',sZ',sS'];refine takeS (i:=8) (d:=153) (v:=.int .i64 xb) rfl rfl rfl (by kernel_rfl) (by kernel_rfl) (by kernel_rfl) (fun _ _ _ h=>h) (fun w' hw=>by(have c:=hw.1.c2;simp only[Nat.zero_add]at c;go_simp)) hS1 ?_;simp only[Act.put,sA',sZ',sS']
      refine takeS (i:=9) (d:=154) (v:=.int .i64 (8*xb)) rfl rfl rfl (by kernel_rfl) (by kernel_rfl) (by kernel_rfl) (fun _ _ _ h=>h) (fun w' _=>by(go_simp;exact IntWalk.i64_in _ (by omega))) hS1 ?_;simp only[Act.put,sA',sZ',sS'];refine takeS (i:=10) (d:=155) (v:=.int .i64 (s-8*xb)) rfl rfl rfl (by kernel_rfl) (by kernel_rfl) (by kernel_rfl) (fun _ _ _ h=>h) (fun w' _=>by(go_simp;exact IntWalk.i64_in _ (by omega))) hS1 ?_;simp only[Act.put,sA',sZ',sS'];refine takeS (i:=11) (d:=156) (v:=(.agg #[.bool false,.int .i64 zxb,.int .i64 za,.int .i64 (s-8*xb)])) rfl rfl rfl (by kernel_rfl) (by kernel_rfl) (by kernel_rfl) (fun _ _ _ h=>h) (fun w' _=>by(go_simp)) hS1 ?_;simp only[Act.put,sA',sZ',sS'];refine takeS (i:=12) (d:=157) (v:=.pointer (some ⟨X,2,none⟩)) rfl rfl rfl (by kernel_rfl) (by kernel_rfl) (by kernel_rfl) (fun _ _ _ h=>h) (fun w' _=>by(go_simp)) hS1 ?_
      simp only[Act.put,sA',sZ',sS'];refine takeS (i:=13) (d:=158) (v:=.int .i64 xb) rfl rfl rfl (by kernel_rfl) (by kernel_rfl) (by kernel_rfl) (fun _ _ _ h=>h) (fun w' hw=>by(have c:=hw.1.c2;simp only[Nat.zero_add]at c;go_simp)) hS1 ?_;simp only[Act.put,sA',sZ',sS'];refine takeS (i:=14) (d:=159) (v:=.pointer (some ⟨X,2,none⟩)) rfl rfl rfl (by kernel_rfl) (by kernel_rfl) (by kernel_rfl) (fun _ _ _ h=>h) (fun w' _=>by(go_simp)) hS1 ?_;simp only[Act.put,sA',sZ',sS'];refine takeS (i:=15) (d:=160) (v:=.int .i64 xb) rfl rfl rfl (by kernel_rfl) (by kernel_rfl) (by kernel_rfl) (fun _ _ _ h=>h) (fun w' hw=>by(have c:=hw.1.c2;simp only[Nat.zero_add]at c;go_simp)) hS1 ?_;simp only[Act.put,sA',sZ',sS'];refine takeS (i:=16) (d:=161) (v:=.pointer (some ⟨X,3,none⟩)) rfl rfl rfl (by kernel_rfl) (by kernel_rfl) (by kernel_rfl) (fun _ _ _ h=>h) (fun w' _=>by(go_simp)) hS1 ?_
      simp only[Act.put,sA',sZ',sS'];refine takeS (i:=17) (d:=162) (v:=.int .i64 xn) rfl rfl rfl (by kernel_rfl) (by kernel_rfl) (by kernel_rfl) (fun _ _ _ h=>h) (fun w' hw=>by(have c:=hw.1.c3;simp only[Nat.zero_add]at c;go_simp)) hS1 ?_;simp only[Act.put,sA',sZ',sS'];refine takeS (i:=18) (d:=163) (v:=.int .i64 (xb+xn)) rfl rfl rfl (by kernel_rfl) (by kernel_rfl) (by kernel_rfl) (fun _ _ _ h=>h) (fun w' _=>by(go_simp;exact IntWalk.i64_in _ (by omega))) hS1 ?_;simp only[Act.put,sA',sZ',sS'];refine takeS (i:=19) (d:=164) (v:=.pointer (some ⟨Y,4,none⟩)) rfl rfl rfl (by kernel_rfl) (by kernel_rfl) (by kernel_rfl) (fun _ _ _ h=>h) (fun w' _=>by(go_simp)) hS1 ?_;simp only[Act.put,sA',sZ',sS']
      refine takeS (i:=20) (d:=165) (v:=.int .u64 ym) rfl rfl rfl (by kernel_rfl) (by kernel_rfl) (by kernel_rfl) (fun _ _ _ h=>h) (fun w' hw=>by(have c:=hw.2.1.c4;simp only[Nat.zero_add]at c;go_simp)) hS1 ?_;simp only[Act.put,sA',sZ',sS'];refine takeS (i:=21) (d:=166) (v:=.pointer (some ⟨X,3,none⟩)) rfl rfl rfl (by kernel_rfl) (by kernel_rfl) (by kernel_rfl) (fun _ _ _ h=>h) (fun w' _=>by(go_simp)) hS1 ?_;simp only[Act.put,sA',sZ',sS'];refine takeS (i:=22) (d:=167) (v:=.int .i64 xn) rfl rfl rfl (by kernel_rfl) (by kernel_rfl) (by kernel_rfl) (fun _ _ _ h=>h) (fun w' hw=>by(have c:=hw.1.c3;simp only[Nat.zero_add]at c;go_simp)) hS1 ?_;simp only[Act.put,sA',sZ',sS'];refine takeS (i:=24) (d:=169) (v:=.slice (some ⟨b,off,none⟩) len cap) rfl rfl rfl (by kernel_rfl) (by kernel_rfl) (by kernel_rfl) (fun _ _ _ h=>h) (fun w' _=>by(go_simp)) hS1 ?_;simp only[Act.put,sA',sZ',sS']
      refine takeS (i:=25) (d:=170) (v:=.int .i64 (len:Int)) rfl rfl rfl (by kernel_rfl) (by kernel_rfl) (by kernel_rfl) (fun _ _ _ h=>h) (fun w' _=>by(go_simp)) hS1 ?_;simp only[Act.put,sA',sZ',sS'];refine takeS (i:=26) (d:=171) (v:=.slice (some ⟨zb,zo,none⟩) (rr.length+1) rc) rfl rfl rfl (by kernel_rfl) (by kernel_rfl) (by kernel_rfl) (fun _ _ _ h=>h) (fun w' _=>by(go_simp)) hS1 ?_;simp only[Act.put,sA',sZ',sS'];refine takeS (i:=27) (d:=172) (v:=.int .i64 ((rr.length:Int)+1)) rfl rfl rfl (by kernel_rfl) (by kernel_rfl) (by kernel_rfl) (fun _ _ _ h=>h) (fun w' _=>by(go_simp)) hS1 ?_;simp only[Act.put,sA',sZ',sS'];refine takeS (i:=28) (d:=173) (v:=.int .i64 ((len:Int)-((rr.length:Int)+1))) rfl rfl rfl (by kernel_rfl) (by kernel_rfl) (by kernel_rfl) (fun _ _ _ h=>h) (fun w' _=>by(go_simp;exact IntWalk.i64_in _ (by omega))) hS1 ?_;simp only[Act.put,sA',sZ',sS']
      refine takeS (i:=29) (d:=174) (v:=.int .i64 ((len:Int)-((rr.length:Int)+1)+1)) rfl rfl rfl (by kernel_rfl) (by kernel_rfl) (by kernel_rfl) (fun _ _ _ h=>h) (fun w' _=>by(go_simp;exact IntWalk.i64_in _ (by omega))) hS1 ?_;simp only[Act.put,sA',sZ',sS'];refine wpAnyH_ready (rs:=[23]) (by kernel_rfl) (by simp) ?_;refine AllReadyH.cons rfl (fun K hK=> ?_) AllReadyH.nil;go_simp;refine(HLOW.out _).mono ?_;rintro e w4 ⟨rfl,rfl⟩;refine hK.out _ _ hS1 (fun hS2=> ?_);clear hK K;refine takeS (i:=30) (d:=175) (v:=.agg #[.bool false,.int .i64 zxb,.int .i64 za,.int .i64 (s-8*xb),.int .i64 xb,.int .i64 (xb+xn),.int .u64 (B.lowBits ym.toNat xn.toNat:Nat),.int .i64 ((len:Int)-((rr.length:Int)+1)+1)]) rfl rfl rfl (by kernel_rfl) (by kernel_rfl) (by kernel_rfl) (fun _ _ _ h=>h) (fun w' _=>by go_simp) hS2 ?_;simp only[Act.put,sA',sZ',sS']
      refine wpAnyH_ready (rs:=[31]) (by kernel_rfl) (by simp) ?_;refine AllReadyH.cons rfl (fun K hK=> ?_) AllReadyH.nil;rw[if_pos (by rfl)];refine wp_store_mid 60 _ _ (by rfl) w.heap.size 0 #[.bool false,.int .i64 zxb,.int .i64 za,.int .i64 (s-8*xb),.int .i64 xb,.int .i64 (xb+xn),.int .u64 (B.lowBits ym.toNat xn.toNat:Nat),.int .i64 ((len:Int)-((rr.length:Int)+1)+1)] (by rfl) (by rfl) (show _ from CellsAt.there (o:=0) (m:=8) (CellsAt.drew HMe.out 1) (by omega)) (by rw[info60];rfl) (by simp[Value.oneCell']) ?_;rw[HC.out];refine hK.out _ _ ⟨InsAt.stored hS2.1 (by simpa using lXe) (by omega) _,InsAt.stored hS2.2.1 (by simpa using lYe) (by omega) _,InsAt.stored hS2.2.2 (by simpa using lZe) (by omega) _⟩ (fun hS3=> ?_);clear hK K;refine wpAnyH_ready (rs:=[32]) (by kernel_rfl) (by simp) ?_;refine AllReadyH.cons rfl (fun K hK=> ?_) AllReadyH.nil;go_simp
      refine hK.out _ _ hS3 (fun hS4=> ?_);clear hK K;refine wpAnyH_done (by kernel_rfl) ?_ _;go_wp2_with fail;refine bodyPost_ret (v:=.tuple #[.agg (mvF m),.bool true]) ?_ rfl ?_
      ·exact ret_mv (p:=2) (u:=3) (by kernel_rfl) (by rfl) (by rfl) HMN.out
      ·exact⟨by rw[←hro];rfl,HSN.out⟩
    ·rw[if_neg (fun h=>hza h.2.1)]at hro
     obtain rfl:ro=none:=hro.symm
     have q1:(z.op !=4)=false:=by simpa using h13
     have q2:(z.b !=xa)=true:=by simpa using hza
     clear hro hza h13
     go_upto_region 116 with fail
     go_big_quiet (fail)
     have HSn:=hd' (Below.stored (belowN HBd.out nq) (by have:=HBd.out.size;simpa using this) (mvF mv0).toList);have HMn:=hd' (MvIn.store (CellsAt.drew HMd.out nq) mv0);have HTn:=hd' (CellsAt.there (CellsAt.drew HMd.out nq) (o:=0) (m:=8) (by omega));go_wp2_with (refine wpList_store_mid (by rfl) 60 _ _ (by rfl) w.heap.size 0 (mvF mv0) (by rfl) (by rfl) HTn.out (by rw[info60];rfl) (mvF_ones _) ?_);refine bodyPost_ret (v:=.tuple #[.agg (mvF mv0),.bool false]) ?_ rfl ?_
     ·exact ret_mv (p:=2) (u:=3) (by kernel_rfl) (by rfl) (by rfl) HMn.out
     ·exact⟨rfl,HSn.out⟩
   ·rw[if_neg (fun h=>h13 h.1)]at hro
    obtain rfl:ro=none:=hro.symm
    have q1:(z.op !=4)=true:=by simpa using h13
    clear hro h13
    go_upto_region 116 with fail
    go_big_quiet (fail)
    have HSn:=hd' (Below.stored (belowN HBd.out nq) (by have:=HBd.out.size;simpa using this) (mvF mv0).toList);have HMn:=hd' (MvIn.store (CellsAt.drew HMd.out nq) mv0);have HTn:=hd' (CellsAt.there (CellsAt.drew HMd.out nq) (o:=0) (m:=8) (by omega));go_wp2_with (refine wpList_store_mid (by rfl) 60 _ _ (by rfl) w.heap.size 0 (mvF mv0) (by rfl) (by rfl) HTn.out (by rw[info60];rfl) (mvF_ones _) ?_);refine bodyPost_ret (v:=.tuple #[.agg (mvF mv0),.bool false]) ?_ rfl ?_
    ·exact ret_mv (p:=2) (u:=3) (by kernel_rfl) (by rfl) (by rfl) HMn.out
    ·exact⟨rfl,HSn.out⟩
end Code
end Go.Proofs.YtpibampaobncaaaGreatDoor
namespace Go.Proofs.YtpibampaobncaaaGreatDoor
open Go.RowKit
namespace Code
attribute [local go_sem ↓] Go.wp_at_zero Go.wp_at_succ
set_option maxRecDepth 100000 in
set_option maxHeartbeats 3200000 in
theorem read_no(a:Option Addr)(len cap:Nat)(x y:B.Ins)(r:List B.Ins)(w:World)(hp:ProgAt w a len (x::y::r))(_hc:len≤cap)(hw:∀u∈x::y::r,u.right=true)(hl:len≤1000000)(h2:¬len<2)(hA:¬(x.op=2∧x.a≠x.b))(hB:¬(x.op=9∧y.op=8∧y.a=x.a)):
    Calls Tryz.prog 70 #[.slice a len cap] w (FReadOut (x::y::r) w):=by
 unfold FReadOut;obtain⟨b,off,rfl,hb,hi⟩:=hp.at_ 0 x rfl;obtain⟨b',off',hb',_,hi'⟩:=hp.at_ 1 y rfl;simp only[Option.some.injEq,Addr.mk.injEq,and_true]at hb';obtain⟨rfl,rfl⟩:=hb'
 have HX : Hid (InsAt w b off x) := by have : InsAt w b off x := by simpa using hi
                                       exact hd' this
 have HY : Hid (InsAt w b (off + 5) y) := by have : InsAt w b (off + 5) y := by simpa using hi'
                                             exact hd' this
 obtain⟨ro,hro⟩:∃ro,B.readMv (x::y::r)=ro:=⟨_,rfl⟩;rw[hro];have HP:=hd' hp;have HWR:=hd' hw;obtain⟨w1,hw1⟩:∃w1,w.alloc (.cells (mvF mv0) 60)=w1:=⟨_,rfl⟩
 have hz1:w1.heap.size=w.heap.size+1:=by rw[←hw1];simp
 have HB1:Hid (Below w.heap.size w w1):=by rw[←hw1];exact hd' ((Below.refl _ _).alloc (lR' _) _)
 have HM1:Hid (MvIn w1 w.heap.size mv0):=by rw[←hw1];exact hd' (MvIn.new mv0 w)
 clear hp hw hi hi';go_enter Tryz.func70,Tryz.ntmps70
 go_upto_region 15 with fail
 have hw1':w.alloc (.cells #[.bool false,.int .i64 0,.int .i64 0,.int .i64 0,.int .i64 0,.int .i64 0,.int .u64 0,.int .i64 0] 60)=w1:=hw1;rw[hw1'];clear hw1 hw1'
 go_cut [4,5]from 15 to 21 (fun p q wx=>∃X Y:Nat,p= .pointer (some ⟨X,0,none⟩)∧q= .pointer (some ⟨Y,0,none⟩)∧InsAt wx X 0 x∧InsAt wx Y 0 y∧w.heap.size<X∧w.heap.size<Y∧X≠Y∧X<wx.heap.size∧Y<wx.heap.size∧Below (w.heap.size+1) w1 wx)
 case first=>
  have HXn:=hd' (HX.out.below HB1.out hb);have HYn:=hd' (HY.out.below HB1.out hb)
  have hb1:b<w.heap.size+1:=by omega
  refine wp_region_held_drew (S:=Below (w.heap.size+1) w1) (by kernel_rfl) (Below.refl _ _).drew (fun hS1=> ?_);refine takeS (i:=0) (d:=15) (v:=.slice (some ⟨b,off,none⟩) len cap) rfl rfl rfl (by kernel_rfl) (by kernel_rfl) (by kernel_rfl) (fun _ _ _ h=>h) (fun w' _=>by go_simp) hS1 ?_;simp only[Act.put,sA',sZ',sS'];refine takeS (i:=1) (d:=16) (v:=.pointer (some ⟨b,off,none⟩)) rfl rfl rfl (by kernel_rfl) (by kernel_rfl) (by kernel_rfl) (fun _ _ _ h=>h) (fun w' _=>by(go_simp;intro hq;omega)) hS1 ?_;simp only[Act.put,sA',sZ',sS'];refine takeM (i:=2) (d:=17) 25 _ b off (cellsI x).toArray _ rfl rfl rfl rfl (by rfl) Tryz.underlying25 rfl (by kernel_rfl) (by kernel_rfl) (by kernel_rfl) (by kernel_rfl) (fun _ _ _ h=>h) (fun w' h=>ins_range (HXn.out.below h hb1)) hS1 ?_;simp only[Act.put,sA',sZ',sS']
  refine takeS (i:=3) (d:=18) (v:=.slice (some ⟨b,off,none⟩) len cap) rfl rfl rfl (by kernel_rfl) (by kernel_rfl) (by kernel_rfl) (fun _ _ _ h=>h) (fun w' _=>by go_simp) hS1 ?_;simp only[Act.put,sA',sZ',sS'];refine takeS (i:=4) (d:=19) (v:=.pointer (some ⟨b,off+5,none⟩)) rfl rfl rfl (by kernel_rfl) (by kernel_rfl) (by kernel_rfl) (fun _ _ _ h=>h) (fun w' _=>by(go_simp;intro hq;omega)) hS1 ?_;simp only[Act.put,sA',sZ',sS'];refine takeM (i:=5) (d:=20) 25 _ b (off+5) (cellsI y).toArray _ rfl rfl rfl rfl (by rfl) Tryz.underlying25 rfl (by kernel_rfl) (by kernel_rfl) (by kernel_rfl) (by kernel_rfl) (fun _ _ _ h=>h) (fun w' h=>ins_range (HYn.out.below h hb1)) hS1 ?_;simp only[Act.put,sA',sZ',sS'];have hs1:=hS1.size;refine wpAnyH_ready (rs:=[6,7]) (by kernel_rfl) (by simp) ?_;refine AllReadyH.cons rfl (fun K hK=> ?_) (AllReadyH.cons rfl (fun K hK=> ?_) AllReadyH.nil)
  ·refine step_box (by rfl) (by rfl) (base:=w.heap.size+1) (by omega) ?_
   intro X w2 hX hXb hb2;refine hK.out _ _ (hS1.trans hb2) (fun hS2=> ?_);clear hK K;have hs2:=hS2.size;have hlt:=lt_of_block hX;refine wpAnyH_ready (rs:=[7]) (by kernel_rfl) (by simp) ?_;refine AllReadyH.cons rfl (fun K hK=> ?_) AllReadyH.nil;refine step_box (by rfl) (by rfl) (base:=w2.heap.size) (lR' _) ?_;intro Y w3 hY hYb hb3;refine hK.out _ _ (hS2.trans (hb3.mono (by omega))) (fun hS3=> ?_);clear hK K;have hs3:=hS3.size
   have hne:X≠Y:=by omega
   have hX3:=(hb3.block X hlt).trans hX;refine wpAnyH_ready (rs:=[8]) (by kernel_rfl) (by simp) ?_;refine AllReadyH.cons rfl (fun K hK=> ?_) AllReadyH.nil;refine step_ins (by rfl) _ _ (by rfl) (G:=X) (base:=w.heap.size+1) (by rfl) (by rfl) hX3 (by omega) (by simp[Value.oneCell']) ?_;intro w4 hX4 hk4 hb4;refine hK.out _ _ (hS3.trans hb4) (fun hS4=> ?_);clear hK K;have hY4:=(hk4 Y (Ne.symm hne)).trans hY;refine wpAnyH_ready (rs:=[9]) (by kernel_rfl) (by simp) ?_;refine AllReadyH.cons rfl (fun K hK=> ?_) AllReadyH.nil;refine step_ins (by rfl) _ _ (by rfl) (G:=Y) (base:=w.heap.size+1) (by rfl) (by rfl) hY4 (by omega) (by simp[Value.oneCell']) ?_;intro w5 hY5 hk5 hb5;refine hK.out _ _ (hS4.trans hb5) (fun hS5=> ?_);clear hK K;have hX5:=(hk5 X hne).trans hX4;refine wpAnyH_done (by kernel_rfl) ?_ _;go_wp2_with fail;go_meet
   exact⟨X,Y,rfl,rfl,ins_of_row hX5,ins_of_row hY5,by omega,by omega,hne,lt_of_block hX5,lt_of_block hY5,hS5⟩
  ·refine step_box (by rfl) (by rfl) (base:=w.heap.size+1) (by omega) ?_
   intro Y w2 hY hYb hb2;refine hK.out _ _ (hS1.trans hb2) (fun hS2=> ?_);clear hK K;have hs2:=hS2.size;have hlt:=lt_of_block hY;refine wpAnyH_ready (rs:=[6]) (by kernel_rfl) (by simp) ?_;refine AllReadyH.cons rfl (fun K hK=> ?_) AllReadyH.nil;refine step_box (by rfl) (by rfl) (base:=w2.heap.size) (lR' _) ?_;intro X w3 hX hXb hb3;refine hK.out _ _ (hS2.trans (hb3.mono (by omega))) (fun hS3=> ?_);clear hK K;have hs3:=hS3.size
   have hne:X≠Y:=by omega
   have hY3:=(hb3.block Y hlt).trans hY;refine wpAnyH_ready (rs:=[8]) (by kernel_rfl) (by simp) ?_;refine AllReadyH.cons rfl (fun K hK=> ?_) AllReadyH.nil;refine step_ins (by rfl) _ _ (by rfl) (G:=X) (base:=w.heap.size+1) (by rfl) (by rfl) hX (by omega) (by simp[Value.oneCell']) ?_;intro w4 hX4 hk4 hb4;refine hK.out _ _ (hS3.trans hb4) (fun hS4=> ?_);clear hK K;have hY4:=(hk4 Y (Ne.symm hne)).trans hY3;refine wpAnyH_ready (rs:=[9]) (by kernel_rfl) (by simp) ?_;refine AllReadyH.cons rfl (fun K hK=> ?_) AllReadyH.nil;refine step_ins (by rfl) _ _ (by rfl) (G:=Y) (base:=w.heap.size+1) (by rfl) (by rfl) hY4 (by omega) (by simp[Value.oneCell']) ?_;intro w5 hY5 hk5 hb5;refine hK.out _ _ (hS4.trans hb5) (fun hS5=> ?_);clear hK K;have hX5:=(hk5 X hne).trans hX4;refine wpAnyH_done (by kernel_rfl) ?_ _;go_wp2_with fail;go_meet
   exact⟨X,Y,rfl,rfl,ins_of_row hX5,ins_of_row hY5,by omega,by omega,hne,lt_of_block hX5,lt_of_block hY5,hS5⟩
 obtain⟨X,Y,rfl,rfl,hiX,hiY,gX,gY,hXY,lX,lY,hbc⟩:=hcut;have HMc:=hd' (CellsAt.below HM1.out hbc (by omega));have HT:=hd' (CellsAt.there HMc.out (o:=0) (m:=8) (by omega));have HBc:=hd' (HB1.out.trans (hbc.mono (by omega)));have HS0:=hd' (Below.stored HBc.out HBc.out.size (mvF mv0).toList);have HMS0:=hd' (MvIn.store HMc.out mv0);have HBCN:=hd' hbc;have HXC:=hd' hiX;have HYC:=hd' hiY;have c0:=hiX.c0;have c1:=hiX.c1;have c2:=hiX.c2;have d0:=hiY.c0;have d1:=hiY.c1;clear hiX hiY hbc
 obtain rfl:ro=none:=by rw[←hro,B.readMv_cons,if_neg hA,if_neg hB]
 clear hro;obtain⟨o,xa,xb,xn,xm⟩:=x;obtain⟨p,ya,yb,yn,ym⟩:=y;simp only at c0 c1 c2 d0 d1 hA hB
 by_cases h1:o=2
 ·subst h1
  obtain rfl:xa=xb:=by by_cases e:xa=xb;exact e;exact absurd ⟨rfl,e⟩ hA
  clear hA hB;go_wp2_with (refine wpList_store_mid (by rfl) 60 _ _ (by rfl) w.heap.size 0 (mvF mv0) (by rfl) (by rfl) HT.out (by rw[info60];rfl) (mvF_ones _) ?_);refine bodyPost_ret (v:=.tuple #[.agg (mvF mv0),.bool false]) ?_ rfl ?_
  ·exact ret_mv (p:=2) (u:=3) (by kernel_rfl) (by rfl) (by rfl) HMS0.out
  ·exact⟨rfl,HS0.out⟩
 ·by_cases h9:o=9
  ·subst h9
   by_cases h8:p=8
   ·subst h8
    have hy:ya≠xa:=fun e=>hB ⟨rfl,rfl,e⟩
    have q:(ya==xa)=false:=by simpa using hy
    clear hA hB hy h1;go_wp2_with (refine wpList_store_mid (by rfl) 60 _ _ (by rfl) w.heap.size 0 (mvF mv0) (by rfl) (by rfl) HT.out (by rw[info60];rfl) (mvF_ones _) ?_);refine bodyPost_ret (v:=.tuple #[.agg (mvF mv0),.bool false]) ?_ rfl ?_
    ·exact ret_mv (p:=2) (u:=3) (by kernel_rfl) (by rfl) (by rfl) HMS0.out
    ·exact⟨rfl,HS0.out⟩
   ·have q:(p==8)=false:=by simpa using h8
    clear hA hB h8 h1;go_wp2_with (refine wpList_store_mid (by rfl) 60 _ _ (by rfl) w.heap.size 0 (mvF mv0) (by rfl) (by rfl) HT.out (by rw[info60];rfl) (mvF_ones _) ?_);refine bodyPost_ret (v:=.tuple #[.agg (mvF mv0),.bool false]) ?_ rfl ?_
    ·exact ret_mv (p:=2) (u:=3) (by kernel_rfl) (by rfl) (by rfl) HMS0.out
    ·exact⟨rfl,HS0.out⟩
  ·have q:(o==2)=false:=by simpa using h1
   have q':(o==9)=false:=by simpa using h9
   clear hA hB h1 h9;go_wp2_with (refine wpList_store_mid (by rfl) 60 _ _ (by rfl) w.heap.size 0 (mvF mv0) (by rfl) (by rfl) HT.out (by rw[info60];rfl) (mvF_ones _) ?_);refine bodyPost_ret (v:=.tuple #[.agg (mvF mv0),.bool false]) ?_ rfl ?_
   ·exact ret_mv (p:=2) (u:=3) (by kernel_rfl) (by rfl) (by rfl) HMS0.out
   ·exact⟨rfl,HS0.out⟩
end Code
end Go.Proofs.YtpibampaobncaaaGreatDoor
namespace Go.Proofs.YtpibampaobncaaaGreatDoor
open Go.RowKit
namespace Code
attribute [local go_sem ↓] Go.wp_at_zero Go.wp_at_succ
theorem read_any(a:Option Addr)(len cap:Nat)(l:List B.Ins)(w:World)(hp:ProgAt w a len l)(hc:len≤cap)(hw:∀x∈l,x.right=true)(hl:len≤1000000):
    Calls Tryz.prog 70 #[.slice a len cap] w (FReadOut l w):=by
 by_cases h2:len<2
 ·exact read_short a len cap l w hp h2
 ·obtain⟨x,y,r,rfl⟩:∃x y r,l=x::y::r:=by
    have:=hp.len
    match l,this with
    | [],h=>simp at h;omega
    | [x],h=>simp at h;omega
    | x::y::r,_=>exact⟨x,y,r,rfl⟩
  by_cases hA:x.op=2∧x.a≠x.b
  ·exact read_in a len cap x y r w hp hc hw hl h2 hA
  ·by_cases hB:x.op=9∧y.op=8∧y.a=x.a
   ·exact read_out a len cap x y r w hp hc hw hl h2 hA hB
   ·exact read_no a len cap x y r w hp hc hw hl h2 hA hB
def moveV(o:Option B.Mv):B.Mv:=o.getD mv0
theorem mvOut_eq(o:Option B.Mv):mvOut o= .tuple #[.agg (mvF (moveV o)),.bool o.isSome]:=by cases o<;>rfl
set_option maxRecDepth 100000 in
set_option maxHeartbeats 3200000 in
theorem readAt_any(a:Option Addr)(len cap i:Nat)(l:List B.Ins)(w:World)(hp:ProgAt w a len l)(hc:len≤cap)(hw:∀x∈l,x.right=true)(hl:len≤1000000)(hi:i≤2000000):
    Calls Tryz.prog 50 #[.slice a len cap,.int .i64 i] w (FReadOut (l.drop i) w):=by
 unfold FReadOut;obtain⟨w1,hw1⟩:∃w1,w.alloc (.cells (mvF mv0) 60)=w1:=⟨_,rfl⟩
 have HB1:Hid (Below w.heap.size w w1):=by rw[←hw1];exact hd' ((Below.refl _ _).alloc (lR' _) _)
 have HM1:Hid (MvIn w1 w.heap.size mv0):=by rw[←hw1];exact hd' (MvIn.new mv0 w)
 by_cases h:len≤i
 ·have hd:B.readMv (l.drop i)=none:=by rw[List.drop_eq_nil_of_le (by rw[←hp.len];exact h)];rfl
  rw[hd]
  have hi0:(len:Int)≤(i:Int):=by omega
  have HT:=hd' (CellsAt.there HM1.out (o:=0) (m:=8) (by omega));have HS:=hd' (Below.stored HB1.out HB1.out.size (mvF mv0).toList);have HM:=hd' (MvIn.store HM1.out mv0);clear hp hw hd h hi;go_enter Tryz.func50,Tryz.ntmps50
  go_upto_region 1 with fail
  have hw1':w.alloc (.cells #[.bool false,.int .i64 0,.int .i64 0,.int .i64 0,.int .i64 0,.int .i64 0,.int .u64 0,.int .i64 0] 60)=w1:=hw1;rw[hw1'];clear hw1 hw1';go_wp2_with (refine wpList_store_mid (by rfl) 60 _ _ (by rfl) w.heap.size 0 (mvF mv0) (by rfl) (by rfl) HT.out (by rw[info60];rfl) (mvF_ones _) ?_);refine bodyPost_ret (v:=.tuple #[.agg (mvF mv0),.bool false]) ?_ rfl ?_
  ·exact ret_mv (p:=4) (u:=5) (by kernel_rfl) (by rfl) (by rfl) HM.out
  ·exact⟨rfl,HS.out⟩
 ·have hlt:i<len:=by omega
  have hP:=ProgAt.rest hp hc i;unfold sliceFrom at hP;rw[if_neg (by omega)]at hP;obtain⟨x,hx⟩:∃x,l[i]? =some x:=⟨l[i]'(by have:=hp.len;omega),List.getElem?_eq_getElem _⟩;obtain⟨b,off,rfl,_,_⟩:=hp.at_ i x hx
  have ea:(some ⟨b,off,none⟩:Option Addr).map (·.add (i*5))=some ⟨b,off+i*5,none⟩:=by
   show some (Addr.add _ _)=_
   unfold Addr.add;split
   ·rename_i h0;rw[h0];rfl
   ·rfl
  rw[ea]at hP;obtain⟨m,hm⟩:∃m,moveV (B.readMv (l.drop i))=m:=⟨_,rfl⟩;obtain⟨c,hcs⟩:∃c,(B.readMv (l.drop i)).isSome=c:=⟨_,rfl⟩;rw[mvOut_eq,hm,hcs];have HC:=hd' (read_any (some ⟨b,off+i*5,none⟩) (len-i) (cap-i) (l.drop i) w1 (hP.below HB1.out (lR' _)) (by omega) (fun x hx=>hw x (List.mem_of_mem_drop hx)) (by omega));unfold FReadOut at HC;rw[mvOut_eq,hm,hcs]at HC
  have hi0:¬(len:Int)≤(i:Int):=by omega
  have hi1:(i:Int)≤(len:Int):=by omega
  have hne:¬cap=i:=by omega
  clear hp hw hP hx h hi ea hm hcs;go_enter Tryz.func50,Tryz.ntmps50
  go_upto_region 1 with fail
  have hw1':w.alloc (.cells #[.bool false,.int .i64 0,.int .i64 0,.int .i64 0,.int .i64 0,.int .i64 0,.int .u64 0,.int .i64 0] 60)=w1:=hw1;rw[hw1'];clear hw1 hw1';go_wp2_with fail;refine HC.out.mono ?_;rintro e w2 ⟨rfl,hb2⟩;have hz:=CellsAt.blk HM1.out;have HM2:Hid (MvIn w2 w.heap.size mv0):=hd' (CellsAt.below HM1.out hb2 hz);have HB2:Hid (Below w.heap.size w w2):=hd' (HB1.out.trans (hb2.mono HB1.out.size));have HT:=hd' (CellsAt.there HM2.out (o:=0) (m:=8) (by omega));have HS:=hd' (Below.stored HB2.out HB2.out.size (mvF m).toList);have HM:=hd' (MvIn.store HM2.out m);clear hb2 hz;go_wp2_with (refine wpList_store_mid (by rfl) 60 _ _ (by rfl) w.heap.size 0 (mvF m) (by rfl) (by rfl) HT.out (by rw[info60];rfl) (mvF_ones _) ?_);refine bodyPost_ret (v:=.tuple #[.agg (mvF m),.bool c]) ?_ rfl ?_
  ·exact ret_mv (p:=4) (u:=5) (by kernel_rfl) (by rfl) (by rfl) HM.out
  ·exact⟨rfl,HS.out⟩
end Code
end Go.Proofs.YtpibampaobncaaaGreatDoor
namespace Go.Proofs.YtpibampaobncaaaGreatDoor
open Go.RowKit
namespace Code
attribute [local go_sem ↓] Go.wp_at_zero Go.wp_at_succ
theorem ret_move{fn:Func}{p:Nat}(hr:fn.results= #[.cell p 60]){tmps:Array Value}{wz:World}{R:Nat}{m:B.Mv}(hp:tmps.getD p undef= .pointer (some ⟨R,0,none⟩))(hm:MvIn wz R m):
    (results fn tmps).run Tryz.prog wz= .ok (.agg (mvF m)) wz:=
 results_cell hr hp (run_loadVar_mid (P:=Tryz.prog) wz R 0 60 (mvF m).toList _ (MvIn.range hm) Tryz.underlying60 rfl (by rw[info60];rfl))
set_option maxRecDepth 100000 in
set_option maxHeartbeats 3200000 in
theorem join_any(m o:B.Mv)(hm:m.Ok)(ho:o.Ok)(w:World):
    Calls Tryz.prog 52 #[.agg (mvF m),.agg (mvF o)] w fun e w'=>e= .returned (.agg (mvF (B.joinM m o)))∧Below w.heap.size w w':=by
 have HJ:=hd' (B.join_bits hm ho)
 have hmb:m.b≤8:=by have:=hm.be;have:=hm.e8;omega
 have hob:o.b≤8:=by have:=ho.be;have:=ho.e8;omega
 clear hm ho;obtain⟨w1,hw1⟩:∃w1,((w.alloc (.cells (mvF m) 60)).alloc (.cells (mvF o) 60)).alloc (.cells (mvF mv0) 60)=w1:=⟨_,rfl⟩
 have HB1:Hid (Below w.heap.size w w1):=by rw[←hw1];exact hd' ((((Below.refl _ _).alloc (lR' _) _).alloc (by simp) _).alloc (by simp;omega) _)
 have HM1:Hid (MvIn w1 w.heap.size m):=by rw[←hw1];exact hd' (CellsAt.alloc (CellsAt.alloc (MvIn.new m w) _) _)
 have HO1:Hid (MvIn w1 (w.heap.size+1) o):=by
  rw[←hw1];have:=CellsAt.alloc (MvIn.new o (w.alloc (.cells (mvF m) 60))) (.cells (mvF mv0) 60);rw[show(w.alloc (.cells (mvF m) 60)).heap.size=w.heap.size+1 by simp]at this;exact hd' this
 have HR1:Hid (MvIn w1 (w.heap.size+1+1) mv0):=by
  rw[←hw1];have:=MvIn.new mv0 ((w.alloc (.cells (mvF m) 60)).alloc (.cells (mvF o) 60));rw[show((w.alloc (.cells (mvF m) 60)).alloc (.cells (mvF o) 60)).heap.size=w.heap.size+1+1 by simp]at this;exact hd' this
 unfold mvF;go_enter Tryz.func52,Tryz.ntmps52
 go_upto_region 1 with fail
 rw[show((w.alloc (.cells #[.bool m.inn,.int .i64 m.t,.int .i64 m.v,.int .i64 m.way,.int .i64 m.b,.int .i64 m.e,.int .u64 m.bits,.int .i64 m.size] 60)).alloc (.cells #[.bool o.inn,.int .i64 o.t,.int .i64 o.v,.int .i64 o.way,.int .i64 o.b,.int .i64 o.e,.int .u64 o.bits,.int .i64 o.size] 60)).alloc (.cells #[.bool false,.int .i64 0,.int .i64 0,.int .i64 0,.int .i64 0,.int .i64 0,.int .u64 0,.int .i64 0] 60)=w1 from hw1];clear hw1;have c4:w1.cell? ⟨w.heap.size,4,none⟩=some (.int .i64 m.b):=CellsAt.cell HM1.out (j:=4) (by omega);have d4:w1.cell? ⟨w.heap.size+1,4,none⟩=some (.int .i64 o.b):=CellsAt.cell HO1.out (j:=4) (by omega)
 go_upto_region 2 with fail
 obtain⟨f,hf⟩:∃f:Nat,min m.b o.b=f:=⟨_,rfl⟩
 have hfm:f≤m.b:=by omega
 have hfo:f≤o.b:=by omega
 first
  | rw[show(if o.b<m.b then(o.b:Int)else(m.b:Int))=(f:Int) by split<;>omega]
  | rw[show min (m.b:Int) (o.b:Int)=(f:Int) by omega]
 have hJ:=HJ.out;rw[hf]at hJ;have c6:w1.cell? ⟨w.heap.size,6,none⟩=some (.int .u64 m.bits):=CellsAt.cell HM1.out (j:=6) (by omega);have d6:w1.cell? ⟨w.heap.size+1,6,none⟩=some (.int .u64 o.bits):=CellsAt.cell HO1.out (j:=6) (by omega);have f6:=CellsAt.free HM1.out 6;have s1:IntKind.i64.wrap ((m.b:Int)-(f:Int))=(m.b:Int)-(f:Int):=IntWalk.i64_in _ (by omega);have s2:IntKind.i64.wrap ((o.b:Int)-(f:Int))=(o.b:Int)-(f:Int):=IntWalk.i64_in _ (by omega);have s3:IntKind.i64.wrap (8*((m.b:Int)-(f:Int)))=8*((m.b:Int)-(f:Int)):=IntWalk.i64_in _ (by omega);have s4:IntKind.i64.wrap (8*((o.b:Int)-(f:Int)))=8*((o.b:Int)-(f:Int)):=IntWalk.i64_in _ (by omega)
 have s5:¬8*((m.b:Int)-(f:Int))<0:=by omega
 have s6:¬8*((o.b:Int)-(f:Int))<0:=by omega
 have s7:(8*((m.b:Int)-(f:Int))).toNat=8*(m.b-f):=by omega
 have s8:(8*((o.b:Int)-(f:Int))).toNat=8*(o.b-f):=by omega
 go_region
 clear s1 s2 s3 s4 s5 s6 s7 s8 c4 c6 d4 d6 f6 hJ;obtain⟨g,hg⟩:∃g:Nat,max m.e o.e=g:=⟨_,rfl⟩;obtain⟨bb,hbb⟩:∃bb:Nat,(B.joinM m o).bits=bb:=⟨_,rfl⟩;rw[hbb];obtain⟨w2,hw2⟩:∃w2,(w1.setCell ⟨w.heap.size,6,none⟩ (.int .u64 bb)).drew=w2:=⟨_,rfl⟩
 have HM2:Hid (CellsAt w2 w.heap.size 60 8 (fun j=>if j=6 then .int .u64 bb else(mvF m).getD j undef)):=by rw[←hw2];exact hd' (CellsAt.drew (CellsAt.set HM1.out 6 _) 1)
 have HO2:Hid (MvIn w2 (w.heap.size+1) o):=by rw[←hw2];exact hd' (CellsAt.drew (CellsAt.other HO1.out _ _ (by simp)) 1)
 have HR2:Hid (MvIn w2 (w.heap.size+1+1) mv0):=by rw[←hw2];exact hd' (CellsAt.drew (CellsAt.other HR1.out _ _ (by simp;omega)) 1)
 have HB2:Hid (Below w.heap.size w w2):=by rw[←hw2];exact hd' ((HB1.out.setCell (lR' _) _).drew)
 rw[hw2];clear hw2 HM1 HO1 HR1 HB1;have c5:w2.cell? ⟨w.heap.size,5,none⟩=some (.int .i64 m.e):=CellsAt.cell HM2.out (j:=5) (by omega);have d5:w2.cell? ⟨w.heap.size+1,5,none⟩=some (.int .i64 o.e):=CellsAt.cell HO2.out (j:=5) (by omega);have c4:w2.cell? ⟨w.heap.size,4,none⟩=some (.int .i64 m.b):=CellsAt.cell HM2.out (j:=4) (by omega);have f4:=CellsAt.free HM2.out 4;have f5:=CellsAt.free HM2.out 5
 have hig:(if m.e<o.e then(o.e:Int)else(m.e:Int))=(g:Int):=by split<;>omega
 have hih:max (m.e:Int) (o.e:Int)=(g:Int):=by omega
 go_upto_region 3 with fail
 go_region
 clear hig hih c4 c5 d5 f4 f5;obtain⟨M,hM⟩:∃M,B.joinM m o=M:=⟨_,rfl⟩
 have hJM:M= { m with b:=f,e:=g,bits:=bb}:=by rw[←hM,←hf,←hg,←hbb];rfl
 obtain⟨w3,hw3⟩:∃w3,((w2.setCell ⟨w.heap.size,4,none⟩ (.int .i64 f)).setCell ⟨w.heap.size,5,none⟩ (.int .i64 g)).drew=w3:=⟨_,rfl⟩
 have HM3:Hid (MvIn w3 w.heap.size M):=by
  rw[←hw3,hJM];refine hd' (CellsAt.congr (CellsAt.drew (CellsAt.set (CellsAt.set HM2.out 4 (.int .i64 f)) 5 (.int .i64 g)) 1) (fun j hj=> ?_))
  have:j=0∨j=1∨j=2∨j=3∨j=4∨j=5∨j=6∨j=7:=by omega
  rcases this with rfl | rfl | rfl | rfl | rfl | rfl | rfl | rfl<;>rfl
 have HR3:Hid (MvIn w3 (w.heap.size+1+1) mv0):=by rw[←hw3];exact hd' (CellsAt.drew (CellsAt.other (CellsAt.other HR2.out _ _ (by simp;omega)) _ _ (by simp;omega)) 1)
 have HB3:Hid (Below w.heap.size w w3):=by rw[←hw3];exact hd' (((HB2.out.setCell (lR' _) _).setCell (lR' _) _).drew)
 rw[hw3];clear hw3 HM2 HO2 HR2 HB2;have HRG:=hd' (MvIn.range HM3.out);have HT:=hd' (CellsAt.there HR3.out (o:=0) (m:=8) (by omega));have HMN:=hd' (MvIn.store HR3.out M)
 have HSN:Hid (Below w.heap.size w (w3.setCells (w.heap.size+1+1) 0 (mvF M).toList)):=
  hd' (HB3.out.grown (grownBy_setCells _ _ _ _) HB3.out.size (fun k hk=>by simp at hk;omega))
 have HMM:=hd' hM;clear hM hJM
 go_wp2_with (first
  | refine wpList_load_mid (by rfl) 60 _ (by rfl) w.heap.size 0 (by rfl) (mvF M).toList _ HRG.out Tryz.underlying60 (by rfl) (by rw[info60];rfl) ?_
  | refine wpList_store_mid (by rfl) 60 _ _ (by rfl) (w.heap.size+1+1) 0 (mvF M) (by rfl) (by rfl) HT.out (by rw[info60];rfl) (mvF_ones _) ?_)
 refine bodyPost_ret (v:=.agg (mvF M)) ?_ rfl ?_
 ·exact ret_move (p:=4) (by kernel_rfl) (by rfl) HMN.out
 ·exact⟨by rw[HMM.out];rfl,HSN.out⟩
end Code
end Go.Proofs.YtpibampaobncaaaGreatDoor
namespace Go.Proofs.YtpibampaobncaaaGreatDoor
open Go.RowKit
namespace Code
attribute [local go_sem ↓] Go.wp_at_zero Go.wp_at_succ
set_option maxRecDepth 100000 in
set_option maxHeartbeats 6400000 in
theorem entered_any(a:Option Addr)(len cap:Nat)(ps:List B.Ins)(size slots:Int)(w:World)(hp:ProgAt w a len ps)(hok:B.OkTouch ps size slots)(hl:len≤16384):
    Calls Tryz.prog 28 #[.slice a len cap] w (BoolsOut (len+1) (B.entd ps) w):=by
 have HP:=hd' hp;have HOK:=hd' hok;obtain⟨C,hmk,hC1,hC2⟩:=bools_made w len (by omega)
 have HR0:Hid (BoolsIn (w.alloc (.cells C 4)) w.heap.size (len+1) (B.entdTo ps 0)):=
  ⟨_,heap_alloc_new w _,hC1,fun j hj=>hC2 j hj⟩
 have hlw:IntKind.i64.wrap ((len:Int)+1)=(len:Int)+1:=IntWalk.i64_in _ (by omega);clear hp hok hC1 hC2;go_enter Tryz.func28,Tryz.ntmps28;go_wp2_with fail
 go_loopw [12] (fun i wr=>∃k:Nat,i= .int .i64 k∧k≤len∧BoolsIn wr w.heap.size (len+1) (B.entdTo ps k)∧Below w.heap.size w wr) (fun i _=>len-(intOf i).toNat)
 case atStart=>exact⟨0,rfl,Nat.zero_le _,HR0.out,(Below.refl _ _).alloc (lR' _) _⟩
 case round=>
  obtain⟨k,rfl,hk,hr,hb⟩:=hrel;have hsz:=hb.size;have HB:=hd' hb;have HR:=hd' hr;have hLw:=CellsAt.blk hr;clear hmk HR0
  by_cases hlt:k<len
  ·have hx:ps[k]? =some (ps[k]'(by have:=HP.out.len;omega)):=List.getElem?_eq_getElem _
   generalize ps[k]'(by have:=HP.out.len;omega)=x at hx;have HX:=hd' hx;obtain⟨b,off,rfl,hbl,hat⟩:=HP.out.at_ k x hx;obtain⟨h0,h1,h2,h3,h4⟩:=hat.below hb hbl
   have hbw:b<wr.heap.size:=by omega
   have hrb:=B.right_bounds (HOK.out.right k x hx);obtain⟨N,hN⟩:∃N:Nat,x.n=N:=⟨x.n.toNat,by omega⟩
   have hN14:N≤16384:=by omega
   have HN:=hd' hN;have HTN:=hd' (fun j=>B.entdTo_next hx j);obtain⟨wx,hwx⟩:∃wx,wr.alloc (.cells #[.int .i64 x.op,.int .i64 x.a,.int .i64 x.b,.int .i64 x.n,.int .u64 x.imm] 25)=wx:=⟨_,rfl⟩
   have HXX:Hid (InsAt wx wr.heap.size 0 x):=by rw[←hwx];exact hd' (insAt_new x wr)
   have HBX:Hid (Below w.heap.size w wx):=by rw[←hwx];exact hd' (hb.alloc hsz _)
   have HRX:Hid (BoolsIn wx w.heap.size (len+1) (B.entdTo ps k)):=by rw[←hwx];exact hd' (CellsAt.alloc hr _)
   have lX:wr.heap.size<wx.heap.size:=by rw[←hwx];simp
   clear hx hat hb hr hrb hN
   go_upto_region 5 with fail
   clear hwx h0 h1 h2 h3 h4 hbw;generalize hX:wr.heap.size=X at*;clear hX;have c0:=HXX.out.c0;have c1:=HXX.out.c1;have c2:=HXX.out.c2;have c3:=HXX.out.c3;have c4:=HXX.out.c4;go_wp2_with fail;refine(fskips_any x wx).mono ?_;rintro e w2 ⟨rfl,hb2⟩;have HB2:Hid (Below w.heap.size w w2):=hd' (HBX.out.trans (hb2.mono HBX.out.size));have HR2:Hid (BoolsIn w2 w.heap.size (len+1) (B.entdTo ps k)):=hd' (CellsAt.below HRX.out hb2 (CellsAt.blk HRX.out));have HX2:Hid (InsAt w2 X 0 x):=hd' (HXX.out.below hb2 lX);clear hb2 c0 c1 c2 c3 c4 HXX HBX HRX
   cases hs:x.skips with
   | false=>
    have HS:Hid (BoolsIn w2 w.heap.size (len+1) (B.entdTo ps (k+1))):=hd' (BoolsIn.congr HR2.out (fun j _=>by rw[HTN.out j,hs];simp));clear hs;go_wp2_with fail;go_roundw
    case rel=>exact⟨k+1,by go_num,by omega,HS.out,HB2.out⟩
    case measure=>simp[intOf];omega
   | true=>
    have hgl:k+1+N≤len:=by have:=goal_le HOK.out HX.out (by unfold B.Ins.skips at hs;simpa using hs) HN.out;have:=HP.out.len;omega
    have HS:Hid (BoolsIn (w2.setCell ⟨w.heap.size,k+1+N,none⟩ (.bool true)) w.heap.size (len+1) (B.entdTo ps (k+1))):=by
     refine hd' (BoolsIn.congr (BoolsIn.set HR2.out (k+1+N) true) (fun j _=> ?_));rw[HTN.out j,hs,HN.out]
     by_cases e:j=k+1+N
     ·subst e;simp
     ·have:¬k+1+N=j:=fun h=>e h.symm
      simp[e,this]
    have hk1:IntKind.i64.wrap ((k:Int)+1)=(k:Int)+1:=IntWalk.i64_in _ (by omega);have hk2:IntKind.i64.wrap ((k:Int)+1+(N:Int))=(k:Int)+1+(N:Int):=IntWalk.i64_in _ (by omega);have c2:=CellsAt.cell HR2.out (j:=k+1+N) (by omega);have f2:=CellsAt.free HR2.out (k+1+N);have c3:=HX2.out.c3;rw[HN.out]at c3;clear hs;go_wp2_with fail;go_roundw
    case rel=>exact⟨k+1,by go_num,by omega,HS.out,HB2.out.setCell (lR' _) _⟩
    case measure=>simp[intOf];omega
  ·obtain rfl:k=len:=by omega
   clear hb hr;go_wp2_with fail;go_ret;exact⟨_,rfl,lR' _,BoolsIn.congr HR.out (fun j _=>by have:=HP.out.len;rw[this];exact B.entdTo_all ps j),HB.out⟩
end Code
end Go.Proofs.YtpibampaobncaaaGreatDoor
namespace Go.Proofs.YtpibampaobncaaaGreatDoor
open Go.RowKit
namespace Code
attribute [local go_sem ↓] Go.wp_at_zero Go.wp_at_succ
theorem infoI82:(Tryz.prog.info? 82).map (fun i=>(i.zero,i.size,i.bytes))=some (some (.agg (regsF fun _=>false)),16,16):=by kernel_rfl
theorem info82:(Tryz.prog.info? 82).map (·.size)=some 16:=by kernel_rfl
theorem beq_nat16(a r:Nat):((a:Int)==(r:Int))=decide (r=a):=by
 rw[Bool.eq_iff_iff];simp;omega
set_option maxRecDepth 100000 in
theorem run_index16(g:Nat→Bool)(k:Nat)(h:k<16)(w:World):(Instr.index 82 (.agg (regsF g)) (.int .i64 k)).run Tryz.prog w= .ok (.bool (g k)) w:=by
 rcases lt16 h with rfl | rfl | rfl | rfl | rfl | rfl | rfl | rfl | rfl | rfl | rfl | rfl | rfl | rfl | rfl | rfl<;>rfl
theorem rows16_made(w:World)(n:Nat)(hl:n≤1000000):∃C,(Instr.makeSlice 55 (.int .i64 ((n:Int)+1)) (.int .i64 ((n:Int)+1))).run Tryz.prog w= .ok (.slice (some ⟨w.heap.size,0,none⟩) (n+1) (n+1)) (w.alloc (.cells C 82))∧
    C.size=(n+1)*16∧∀j,j<(n+1)*16→C[j]? =some (.bool false):=by
 obtain⟨i,hi,hz0,hz1,hz2⟩:=info_parts infoI82;have hr:=run_make (P:=Tryz.prog) w 55 82 i _ Tryz.underlying55 hi hz0 .i64 .i64 ((n:Int)+1) ((n:Int)+1) (by omega) (by omega) (by rw[hz2];omega) (by omega);rw[show((n:Int)+1).toNat=n+1 by omega,hz1]at hr;refine⟨_,hr,by rw[size_madeCells],fun j hj=> ?_⟩
 have hs:(Value.agg (regsF fun _=>false)).cells=regsF fun _=>false:=rfl
 rw[hs,madeCells,Array.getElem?_map,Array.getElem?_range,if_pos hj];have h16:(regsF fun _=>false).size=16:=rfl;have hm:j%16<16:=Nat.mod_lt _ (by omega);have hg:=regsF_get (fun _=>false) (j%16) hm;simp[h16,getElem!_def,hg]
def ndF(ps:List B.Ins)(k j:Nat):Value:=.bool (decide (k≤j/16)&&B.ndL ps (j/16) (j%16))
structure NeedAt(ps:List B.Ins)(len k:Nat)(w wr:World):Prop where
 rd:CellsAt wr w.heap.size 82 ((len+1)*16) (ndF ps k)
 bel:Below w.heap.size w wr
theorem NeedAt.row{ps:List B.Ins}{len k:Nat}{w wy:World}(h:NeedAt ps len k w wy){j:Nat}(hj:j≤len)(hk:k≤j):wy.rangeAt w.heap.size (j*16) (regsF (B.ndL ps j)).toList:=by
 refine CellsAt.range h.rd (by simp[regsF];omega) ?_;intro q v hq;rw[Array.getElem?_toList]at hq
 have hlt:q<16:=by
  have:=(Array.getElem?_eq_some_iff.1 hq).1;simpa[regsF]using this
 rw[regsF_get _ q hlt]at hq;unfold ndF;rw[show(j*16+q)/16=j by omega,show(j*16+q)%16=q by omega];simp only[hk,decide_true,Bool.true_and];exact Option.some.inj hq
structure MidN(ps:List B.Ins)(len i X:Nat)(x:B.Ins)(g:Nat→Bool)(w wy:World):Prop where
 at_:NeedAt ps len (i+1) w wy
 box:InsAt wy X 0 x
 out:RegsIn wy (X+1) 82 g
 bX:w.heap.size<X
 ltX:X+1<wy.heap.size
theorem NeedAt.below{ps:List B.Ins}{len k:Nat}{w wy wz:World}(h:NeedAt ps len k w wy)(hb:Below wy.heap.size wy wz):NeedAt ps len k w wz:=
 ⟨CellsAt.below h.rd hb (CellsAt.blk h.rd),h.bel.trans (hb.mono h.bel.size)⟩
theorem MidN.below{ps:List B.Ins}{len i X:Nat}{x:B.Ins}{g:Nat→Bool}{w wy wz:World}(h:MidN ps len i X x g w wy)(hb:Below wy.heap.size wy wz):MidN ps len i X x g w wz:=
 ⟨h.at_.below hb,h.box.below hb (by have:=h.ltX;omega),CellsAt.below h.out hb h.ltX,h.bX,Nat.lt_of_lt_of_le h.ltX hb.size⟩
theorem MidN.congr{ps:List B.Ins}{len i X:Nat}{x:B.Ins}{g g':Nat→Bool}{w wy:World}(h:MidN ps len i X x g w wy)(he:∀k,k<16→g k=g' k):MidN ps len i X x g' w wy:=
 ⟨h.at_,h.box,RegsIn.congr h.out he,h.bX,h.ltX⟩
theorem MidN.store{ps:List B.Ins}{len i X:Nat}{x:B.Ins}{g:Nat→Bool}{w wy:World}(h:MidN ps len i X x g w wy)(g':Nat→Bool):MidN ps len i X x g' w (wy.setCells (X+1) 0 (regsF g').toList):=by
 have hg:=grownBy_setCells (X+1) (regsF g').toList 0 wy;have h1:=h.bX;have h2:=h.ltX;exact⟨⟨CellsAt.grown h.at_.rd hg (by omega),h.at_.bel.grown hg h.at_.bel.size (fun k hk=>by simp at hk;omega)⟩,InsAt.grown h.box hg (by omega) (by omega),RegsIn.store h.out g',h.bX,Nat.lt_of_lt_of_le h.ltX hg.size⟩
theorem MidN.set{ps:List B.Ins}{len i X:Nat}{x:B.Ins}{g:Nat→Bool}{w wy:World}(h:MidN ps len i X x g w wy)(k:Nat)(v:Bool):MidN ps len i X x (fun r=>if r=k then v else g r) w (wy.setCell ⟨X+1,k,none⟩ (.bool v)):=by
 have h1:=h.bX;have h2:=h.ltX;exact⟨⟨CellsAt.other h.at_.rd _ _ (by simp;omega),h.at_.bel.setCell (by simp;omega) _⟩,InsAt.other h.box _ _ (by simp),RegsIn.set h.out k v,h.bX,by simpa using h2⟩
theorem MidN.fin{ps:List B.Ins}{len i X:Nat}{x:B.Ins}{w wy:World}(h:MidN ps len i X x (B.ndL ps i) w wy):NeedAt ps len i w (wy.setCells w.heap.size (i*16) (regsF (B.ndL ps i)).toList):=by
 refine⟨CellsAt.congr (row_put h.at_.rd (B.ndL ps i)) (fun j hj=> ?_),h.at_.bel.grown (grownBy_setCells _ _ _ _) h.at_.bel.size (fun k hk=>by simp at hk;omega)⟩;unfold ndF
 by_cases e:j/16=i
 ·rw[if_pos e,e];simp
 ·rw[if_neg e]
  have:decide (i+1≤j/16)=decide (i≤j/16):=by rw[decide_eq_decide];omega
  rw[this]
def NeedOut(ps:List B.Ins)(len:Nat)(w:World)(e:Ending)(w':World):Prop:=∃b,e= .returned (.slice (some ⟨b,0,none⟩) (len+1) (len+1))∧w.heap.size≤b∧CellsAt w' b 82 ((len+1)*16) (fun j=>.bool (B.ndL ps (j/16) (j%16)))∧Below w.heap.size w w'
set_option maxRecDepth 100000 in
set_option maxHeartbeats 6400000 in
theorem needed_any(a:Option Addr)(len cap:Nat)(ps:List B.Ins)(size slots:Int)(w:World)(hp:ProgAt w a len ps)(hok:B.OkTouch ps size slots)(hl:len≤16384):
    Calls Tryz.prog 29 #[.slice a len cap] w (NeedOut ps len w):=by
 have HP:=hd' hp;have HOK:=hd' hok;obtain⟨C1,hmk1,hC1,hC1'⟩:=rows16_made w len (by omega)
 have HD:Hid (NeedAt ps len len w (w.alloc (.cells C1 82))):=by
  refine⟨⟨C1,heap_alloc_new w _,hC1,fun j hj=> ?_⟩,(Below.refl _ _).alloc (lR' _) _⟩;rw[hC1' j hj];unfold ndF
  by_cases h:len≤j/16
  ·rw[B.ndL_far _ _ _ (by have:=HP.out.len;omega)];simp
  ·simp[h]
 have hlw:IntKind.i64.wrap ((len:Int)+1)=(len:Int)+1:=IntWalk.i64_in _ (by omega);clear hp hok hC1 hC1';go_enter Tryz.func29,Tryz.ntmps29;go_wp2_with fail;clear hmk1
 go_loopg [4] len (fun k i wr=>i= .int .i64 ((k:Int)-1)∧k≤len∧NeedAt ps len k w wr)
 case atStart=>exact⟨rfl,lR' _,HD.out⟩
 case round=>
  obtain⟨rfl,hk,hd⟩:=hrel;have HDR:=hd' hd;clear hd HD
  by_cases hz:gk=0
  ·subst hz
   rw[show(((0:Nat):Int)-1)=(-1:Int) by omega];clear hk;go_wp2_with fail;go_ret;exact⟨_,rfl,lR' _,CellsAt.congr HDR.out.rd (fun j _=>by unfold ndF;simp),HDR.out.bel⟩
  ·obtain⟨i,rfl⟩:∃i,gk=i+1:=⟨gk-1,by omega⟩
   rw[show(((i+1:Nat):Int)-1)=(i:Int) by omega];have hx:ps[i]? =some (ps[i]'(by have:=HP.out.len;omega)):=List.getElem?_eq_getElem _;generalize ps[i]'(by have:=HP.out.len;omega)=x at hx;have HX:=hd' hx;obtain⟨b,off,rfl,hbl,hat⟩:=HP.out.at_ i x hx;obtain⟨h0,h1,h2,h3,h4⟩:=hat.below HDR.out.bel hbl;have hsz:=HDR.out.bel.size
   have hbw:b<wr.heap.size:=by omega
   have i0:(0:Int)≤(i:Int):=by omega
   have ilt:i<len:=by omega
   have hk1:IntKind.i64.wrap ((i:Int)+1)=(i:Int)+1:=IntWalk.i64_in _ (by omega);have hr:=HOK.out.right i x hx;have hrb:=B.right_bounds hr;obtain⟨N,hN⟩:∃N:Nat,x.n=N:=⟨x.n.toNat,by omega⟩
   have hN14:N≤16384:=by omega
   have hk2:IntKind.i64.wrap ((i:Int)+1+(N:Int))=(i:Int)+1+(N:Int):=IntWalk.i64_in _ (by omega);have HN:=hd' hN;have HRT:=hd' hr;obtain⟨wx,hwx⟩:∃wx,(wr.alloc (.cells #[.int .i64 x.op,.int .i64 x.a,.int .i64 x.b,.int .i64 x.n,.int .u64 x.imm] 25)).alloc (.cells (regsF fun _=>false) 82)=wx:=⟨_,rfl⟩
   have HMD:Hid (MidN ps len i wr.heap.size x (fun _=>false) w wx):=by
    rw[←hwx];have b2:=CellsAt.blk HDR.out.rd;refine⟨⟨CellsAt.alloc (CellsAt.alloc HDR.out.rd _) _,(HDR.out.bel.alloc hsz _).alloc (by simp;omega) _⟩, ?_, ?_,by omega,by simp⟩
    ·exact(insAt_new x wr).below ((Below.refl (wr.heap.size+1) _).alloc (by simp) _) (by omega)
    ·have h:=RegsIn.new (fun _=>false) 82 (wr.alloc (.cells #[.int .i64 x.op,.int .i64 x.a,.int .i64 x.b,.int .i64 x.n,.int .u64 x.imm] 25))
     simpa using h
   clear hx hat hz hN hr hrb HDR;unfold regsF at hwx
   go_upto_region 7 with fail
   try rw[hwx]
   clear hwx h0 h1 h2 h3 h4 hbw hsz;generalize hX:wr.heap.size=X at*;clear hX
   go_cut [31]from 16 to 105 (fun v wy=>v= .bool x.next∧wy=wx)
   case first=>
    have c0:=HMD.out.box.c0
    by_cases e0:x.op=0
    ·have q0:(x.op !=0)=false:=by simpa using e0
     have HNX:Hid (x.next=false):=hd' (by unfold B.Ins.next;simp[e0]);clear e0;go_wp2_with fail;go_meet;exact⟨by rw[HNX.out],rfl⟩
    ·have q0:(x.op !=0)=true:=by simpa using e0
     obtain⟨q,hq⟩:∃q,(x.op !=18)=q:=⟨_,rfl⟩;have HNX:Hid (x.next=q):=hd' (by rw[←hq];unfold B.Ins.next;by_cases e8:x.op=18<;>simp[e0,e8]);clear e0;go_wp2_with fail;go_meet;exact⟨by rw[HNX.out],rfl⟩
   case rest=>
    obtain⟨rfl,rfl⟩:=hcut
    go_upto_if 31 with fail
    go_cut []from 16 to 105 (fun wy=>MidN ps len i X x (fun k=>x.next&&B.ndL ps (i+1) k) w wy)
    case first=>
     cases hn:x.next with
     | false=>
      have HNN:=hd' hn;clear hn;go_wp2_with fail;go_meet;exact HMD.out.congr (fun k _=>by rw[HNN.out];rfl)
     | true=>
      have HNN:=hd' hn;clear hn;have HROW:=hd' (HMD.out.at_.row (j:=i+1) (by omega) (by omega));have HTO:=hd' (CellsAt.there HMD.out.out (o:=0) (m:=16) (by omega));have HM2:=hd' (HMD.out.store (B.ndL ps (i+1)))
      have e1:¬((i:Int)+1<0):=by omega
      have e2:(i:Int)+1<(len:Int)+1:=by omega
      go_wp2_with (first
       | refine wpList_load_mid (by rfl) 82 _ (by rfl) w.heap.size ((i+1)*16) (by rfl) (regsF (B.ndL ps (i+1))).toList _ HROW.out Tryz.underlying82 (by rfl) (by rw[info82];rfl) ?_
       | refine wpList_store_mid (by rfl) 82 _ _ (by rfl) (X+1) 0 (regsF (B.ndL ps (i+1))) (by rfl) (by rfl) HTO.out (by rw[info82];rfl) (regsF_ones _) ?_)
      go_meet;exact HM2.out.congr (fun k _=>by rw[HNN.out];rfl)
    case rest=>
     have HM1:=hd' hcut;clear hcut HMD;have c0:=HM1.out.box.c0;have c1:=HM1.out.box.c1;have c2:=HM1.out.box.c2;have c3:=HM1.out.box.c3;have c4:=HM1.out.box.c4
     go_upto_region 9 with fail
     go_wp2_with fail;refine(fskips_any x _).mono ?_;rintro e w3 ⟨rfl,hb3⟩;have HM3:=hd' (HM1.out.below hb3);clear hb3 HM1 c0 c1 c2 c3 c4
     go_upto_if 38 with fail
     go_cut []from 16 to 105 (fun wy=>MidN ps len i X x (B.behind x i (B.ndL ps)) w wy)
     case first=>
      cases hs:x.skips with
      | false=>
       have HSS:=hd' hs;clear hs;go_wp2_with fail;go_meet;exact HM3.out.congr (fun k _=>by unfold B.behind;rw[HSS.out];simp)
      | true=>
       have hgl:i+1+N≤len:=by have:=goal_le HOK.out HX.out (by unfold B.Ins.skips at hs;simpa using hs) HN.out;have:=HP.out.len;omega
       have HSS:=hd' hs;have HROW:=hd' (HM3.out.at_.row (j:=i+1+N) (by omega) (by omega));have c3:=HM3.out.box.c3;rw[HN.out]at c3
       have e1:¬((i:Int)+1+(N:Int)<0):=by omega
       have e2:(i:Int)+1+(N:Int)<(len:Int)+1:=by omega
       have e3:((i:Int)+1+(N:Int)).toNat=i+1+N:=by omega
       have e4:(0:Int)≤(i:Int)+1+(N:Int):=by omega
       clear hs;obtain⟨g2,hg2⟩:∃g2,B.ndL ps (i+1+N)=g2:=⟨_,rfl⟩;obtain⟨g1,hg1⟩:∃g1:Nat→Bool,(fun k=>x.next&&B.ndL ps (i+1) k)=g1:=⟨_,rfl⟩;rw[hg2]at HROW;rw[hg1]at HM3;have HG1:=hd' hg1;have HG2:=hd' hg2;clear hg1 hg2;go_wp2_with (refine wpList_load_mid (by rfl) 82 _ (by rfl) w.heap.size ((i+1+N)*16) (by rfl) (regsF g2).toList _ HROW.out Tryz.underlying82 (by rfl) (by rw[info82];rfl) ?_);clear c3 e1 e2 e3 e4 HROW
       go_loopw [47] (fun v wz=>∃k:Nat,k≤16∧v= .int .i64 k∧MidN ps len i X x (fun r=>if r<k then g1 r||g2 r else g1 r) w wz) (fun v _=>16-(intOf v).toNat)
       case atStart=>exact⟨0,by omega,rfl,HM3.out.congr (fun r _=>by rw[if_neg (by omega)])⟩
       case round=>
        obtain⟨k,hk16,rfl,hm⟩:=hrel;have HMK:=hd' hm;clear hm
        by_cases hlt:k<16
        ·have c0:wr.cell? ⟨X+1,k,none⟩=some (.bool (g1 k)):=by have:=CellsAt.cell HMK.out.out (j:=k) hlt;simpa using this
         have f0:=CellsAt.free HMK.out.out k;have hgt:=run_index16 g2 k hlt wr
         have k0:(0:Int)≤(k:Int):=by omega
         have k1:(k:Int)<16:=by omega
         have HS:Hid (MidN ps len i X x (fun r=>if r<k+1 then g1 r||g2 r else g1 r) w (wr.setCell ⟨X+1,k,none⟩ (.bool (g1 k||g2 k)))):=by
          refine hd' ((HMK.out.set k (g1 k||g2 k)).congr (fun r _=> ?_))
          by_cases e:r=k
          ·subst e;rw[if_pos rfl,if_pos (by omega)]
          ·rw[if_neg e]
           by_cases h1:r<k
           ·rw[if_pos h1,if_pos (by omega)]
           ·rw[if_neg h1,if_neg (by omega)]
         cases hf:g1 k with
         | true=>
          rw[hf]at c0 HS;rw[Bool.true_or]at HS;clear hf;go_wp2_with fail;go_roundw
          case rel=>exact⟨k+1,by omega,by go_num,HS.out⟩
          case measure=>simp[intOf];omega
         | false=>
          rw[hf]at c0 HS;rw[Bool.false_or]at HS;clear hf;go_wp2_with fail;go_roundw
          case rel=>exact⟨k+1,by omega,by go_num,HS.out⟩
          case measure=>simp[intOf];omega
        ·obtain rfl:k=16:=by omega
         go_wp2_with fail;go_meet;refine HMK.out.congr (fun r hr=> ?_);rw[if_pos hr,←HG1.out,←HG2.out];unfold B.behind;rw[HSS.out,HN.out];simp
     case rest=>
      have HM4:=hd' hcut;clear hcut HM3;have c0:=HM4.out.box.c0;have c1:=HM4.out.box.c1;have c2:=HM4.out.box.c2;have hrb:=B.right_bounds HRT.out
      have hbb:(2≤x.op∧x.op≤5)→x.b≤15:=by
       intro h;have:=HRT.out;unfold B.Ins.right B.hiB at this;simp[h]at this;omega
      obtain⟨A,hA⟩:∃A:Nat,x.a=A:=⟨x.a.toNat,by omega⟩;obtain⟨D,hD⟩:∃D:Nat,x.b=D:=⟨x.b.toNat,by omega⟩
      have a0:(0:Int)≤(A:Int):=by omega
      have a1:(A:Int)<16:=by omega
      have a16:A<16:=by omega
      have b0:(0:Int)≤(D:Int):=by omega
      rw[hA]at c1;rw[hD]at c2 hbb;have HA:=hd' hA;have HD:=hd' hD;have cA:=CellsAt.cell HM4.out.out a16;have fA:=CellsAt.free HM4.out.out A;have fB:=CellsAt.free HM4.out.out D;have hop:=B.op_cases HRT.out;obtain⟨o,hxo⟩:∃o,x.op=o:=⟨_,rfl⟩;rw[hxo]at c0 hop hbb;have HXO:=hd' hxo;clear hrb hA hD hxo
      go_upto_block 4 with fail
      go_cut []from 16 to 105 (fun wy=>MidN ps len i X x (B.ndL ps i) w wy)
      case first=>
       rcases hop with rfl | rfl | rfl | rfl | rfl | rfl | rfl | rfl | rfl | rfl | rfl | rfl | rfl | rfl | rfl | rfl | rfl | rfl | rfl | rfl
       ·have HO:=HXO
        have HS:Hid (MidN ps len i X x (B.ndL ps i) w (wc)):=by
         refine hd' ((HM4.out).congr (fun r _=> ?_));rw[B.nd_eq HX.out r];simp only[B.Ins.reads,B.Ins.writes,B.Ins.isW,HO.out,HA.out,HD.out,beq_nat16]
         by_cases e:r=A<;>by_cases e2:r=D<;>(simp[e,e2,Bool.and_comm];try (cases decide (D=A)<;>rfl))
        clear hbb HO;go_wp2_with fail;go_meet;exact HS.out
       ·have HO:=HXO
        have HS:Hid (MidN ps len i X x (B.ndL ps i) w (wc.setCell ⟨X+1,A,none⟩ (.bool false))):=by
         refine hd' ((HM4.out.set A false).congr (fun r _=> ?_));rw[B.nd_eq HX.out r];simp only[B.Ins.reads,B.Ins.writes,B.Ins.isW,HO.out,HA.out,HD.out,beq_nat16]
         by_cases e:r=A<;>by_cases e2:r=D<;>(simp[e,e2,Bool.and_comm];try (cases decide (D=A)<;>rfl))
        clear hbb HO;go_wp2_with fail;go_meet;exact HS.out
       ·have HO:=HXO
        have b16:D<16:=by have:=hbb (by omega);omega
        have b1:(D:Int)<16:=by omega
        have cB:=CellsAt.cell (HM4.out.set A false).out b16
        have HS:Hid (MidN ps len i X x (B.ndL ps i) w ((wc.setCell ⟨X+1,A,none⟩ (.bool false)).setCell ⟨X+1,D,none⟩ (.bool true))):=by
         refine hd' (((HM4.out.set A false).set D true).congr (fun r _=> ?_));rw[B.nd_eq HX.out r];simp only[B.Ins.reads,B.Ins.writes,B.Ins.isW,HO.out,HA.out,HD.out,beq_nat16]
         by_cases e:r=A<;>by_cases e2:r=D<;>(simp[e,e2,Bool.and_comm];try (cases decide (D=A)<;>rfl))
        clear hbb HO;go_wp2_with fail;go_meet;exact HS.out
       ·have HO:=HXO
        have b16:D<16:=by have:=hbb (by omega);omega
        have b1:(D:Int)<16:=by omega
        have cB:=CellsAt.cell HM4.out.out b16;have cAB:=CellsAt.cell (RegsIn.set HM4.out.out D true) a16;have cBA:=CellsAt.cell (RegsIn.set HM4.out.out A true) b16
        have HAB:Hid (MidN ps len i X x (B.ndL ps i) w (((wc.setCell ⟨X+1,A,none⟩ (.bool true)).setCell ⟨X+1,D,none⟩ (.bool true)).drew)):=by
         refine hd' ((((HM4.out.set A true).set D true).below (Below.refl _ _).drew).congr (fun r _=> ?_));rw[B.nd_eq HX.out r];simp only[B.Ins.reads,B.Ins.writes,B.Ins.isW,HO.out,HA.out,HD.out,beq_nat16]
         by_cases e:r=A<;>by_cases e2:r=D<;>(simp[e,e2,Bool.and_comm];try (cases decide (D=A)<;>rfl))
        have HBA:Hid (MidN ps len i X x (B.ndL ps i) w (((wc.setCell ⟨X+1,D,none⟩ (.bool true)).setCell ⟨X+1,A,none⟩ (.bool true)).drew)):=by
         refine hd' ((((HM4.out.set D true).set A true).below (Below.refl _ _).drew).congr (fun r _=> ?_));rw[B.nd_eq HX.out r];simp only[B.Ins.reads,B.Ins.writes,B.Ins.isW,HO.out,HA.out,HD.out,beq_nat16]
         by_cases e:r=A<;>by_cases e2:r=D<;>(simp[e,e2,Bool.and_comm];try (cases decide (D=A)<;>rfl))
        clear hbb HO
        go_upto_region 27 with fail
        go_region
        all_goals go_wp2_with fail
        all_goals go_meet
        all_goals first
         | exact HAB.out
         | exact HBA.out
       ·have HO:=HXO
        have b16:D<16:=by have:=hbb (by omega);omega
        have b1:(D:Int)<16:=by omega
        have cB:=CellsAt.cell HM4.out.out b16;have cAB:=CellsAt.cell (RegsIn.set HM4.out.out D true) a16;have cBA:=CellsAt.cell (RegsIn.set HM4.out.out A true) b16
        have HAB:Hid (MidN ps len i X x (B.ndL ps i) w (((wc.setCell ⟨X+1,A,none⟩ (.bool true)).setCell ⟨X+1,D,none⟩ (.bool true)).drew)):=by
         refine hd' ((((HM4.out.set A true).set D true).below (Below.refl _ _).drew).congr (fun r _=> ?_));rw[B.nd_eq HX.out r];simp only[B.Ins.reads,B.Ins.writes,B.Ins.isW,HO.out,HA.out,HD.out,beq_nat16]
         by_cases e:r=A<;>by_cases e2:r=D<;>(simp[e,e2,Bool.and_comm];try (cases decide (D=A)<;>rfl))
        have HBA:Hid (MidN ps len i X x (B.ndL ps i) w (((wc.setCell ⟨X+1,D,none⟩ (.bool true)).setCell ⟨X+1,A,none⟩ (.bool true)).drew)):=by
         refine hd' ((((HM4.out.set D true).set A true).below (Below.refl _ _).drew).congr (fun r _=> ?_));rw[B.nd_eq HX.out r];simp only[B.Ins.reads,B.Ins.writes,B.Ins.isW,HO.out,HA.out,HD.out,beq_nat16]
         by_cases e:r=A<;>by_cases e2:r=D<;>(simp[e,e2,Bool.and_comm];try (cases decide (D=A)<;>rfl))
        clear hbb HO
        go_upto_region 27 with fail
        go_region
        all_goals go_wp2_with fail
        all_goals go_meet
        all_goals first
         | exact HAB.out
         | exact HBA.out
       ·have HO:=HXO
        have b16:D<16:=by have:=hbb (by omega);omega
        have b1:(D:Int)<16:=by omega
        have cB:=CellsAt.cell HM4.out.out b16;have cAB:=CellsAt.cell (RegsIn.set HM4.out.out D true) a16;have cBA:=CellsAt.cell (RegsIn.set HM4.out.out A true) b16
        have HAB:Hid (MidN ps len i X x (B.ndL ps i) w (((wc.setCell ⟨X+1,A,none⟩ (.bool true)).setCell ⟨X+1,D,none⟩ (.bool true)).drew)):=by
         refine hd' ((((HM4.out.set A true).set D true).below (Below.refl _ _).drew).congr (fun r _=> ?_));rw[B.nd_eq HX.out r];simp only[B.Ins.reads,B.Ins.writes,B.Ins.isW,HO.out,HA.out,HD.out,beq_nat16]
         by_cases e:r=A<;>by_cases e2:r=D<;>(simp[e,e2,Bool.and_comm];try (cases decide (D=A)<;>rfl))
        have HBA:Hid (MidN ps len i X x (B.ndL ps i) w (((wc.setCell ⟨X+1,D,none⟩ (.bool true)).setCell ⟨X+1,A,none⟩ (.bool true)).drew)):=by
         refine hd' ((((HM4.out.set D true).set A true).below (Below.refl _ _).drew).congr (fun r _=> ?_));rw[B.nd_eq HX.out r];simp only[B.Ins.reads,B.Ins.writes,B.Ins.isW,HO.out,HA.out,HD.out,beq_nat16]
         by_cases e:r=A<;>by_cases e2:r=D<;>(simp[e,e2,Bool.and_comm];try (cases decide (D=A)<;>rfl))
        clear hbb HO
        go_upto_region 27 with fail
        go_region
        all_goals go_wp2_with fail
        all_goals go_meet
        all_goals first
         | exact HAB.out
         | exact HBA.out
       ·have HO:=HXO
        have HS:Hid (MidN ps len i X x (B.ndL ps i) w (wc.setCell ⟨X+1,A,none⟩ (.bool true))):=by
         refine hd' ((HM4.out.set A true).congr (fun r _=> ?_));rw[B.nd_eq HX.out r];simp only[B.Ins.reads,B.Ins.writes,B.Ins.isW,HO.out,HA.out,HD.out,beq_nat16]
         by_cases e:r=A<;>by_cases e2:r=D<;>(simp[e,e2,Bool.and_comm];try (cases decide (D=A)<;>rfl))
        clear hbb HO;go_wp2_with fail;go_meet;exact HS.out
       ·have HO:=HXO
        have HS:Hid (MidN ps len i X x (B.ndL ps i) w (wc.setCell ⟨X+1,A,none⟩ (.bool true))):=by
         refine hd' ((HM4.out.set A true).congr (fun r _=> ?_));rw[B.nd_eq HX.out r];simp only[B.Ins.reads,B.Ins.writes,B.Ins.isW,HO.out,HA.out,HD.out,beq_nat16]
         by_cases e:r=A<;>by_cases e2:r=D<;>(simp[e,e2,Bool.and_comm];try (cases decide (D=A)<;>rfl))
        clear hbb HO;go_wp2_with fail;go_meet;exact HS.out
       ·have HO:=HXO
        have HS:Hid (MidN ps len i X x (B.ndL ps i) w (wc.setCell ⟨X+1,A,none⟩ (.bool true))):=by
         refine hd' ((HM4.out.set A true).congr (fun r _=> ?_));rw[B.nd_eq HX.out r];simp only[B.Ins.reads,B.Ins.writes,B.Ins.isW,HO.out,HA.out,HD.out,beq_nat16]
         by_cases e:r=A<;>by_cases e2:r=D<;>(simp[e,e2,Bool.and_comm];try (cases decide (D=A)<;>rfl))
        clear hbb HO;go_wp2_with fail;go_meet;exact HS.out
       ·have HO:=HXO
        have HS:Hid (MidN ps len i X x (B.ndL ps i) w (wc.setCell ⟨X+1,A,none⟩ (.bool false))):=by
         refine hd' ((HM4.out.set A false).congr (fun r _=> ?_));rw[B.nd_eq HX.out r];simp only[B.Ins.reads,B.Ins.writes,B.Ins.isW,HO.out,HA.out,HD.out,beq_nat16]
         by_cases e:r=A<;>by_cases e2:r=D<;>(simp[e,e2,Bool.and_comm];try (cases decide (D=A)<;>rfl))
        clear hbb HO;go_wp2_with fail;go_meet;exact HS.out
       ·have HO:=HXO
        have HS:Hid (MidN ps len i X x (B.ndL ps i) w (wc.setCell ⟨X+1,A,none⟩ (.bool false))):=by
         refine hd' ((HM4.out.set A false).congr (fun r _=> ?_));rw[B.nd_eq HX.out r];simp only[B.Ins.reads,B.Ins.writes,B.Ins.isW,HO.out,HA.out,HD.out,beq_nat16]
         by_cases e:r=A<;>by_cases e2:r=D<;>(simp[e,e2,Bool.and_comm];try (cases decide (D=A)<;>rfl))
        clear hbb HO;go_wp2_with fail;go_meet;exact HS.out
       ·have HO:=HXO
        have HS:Hid (MidN ps len i X x (B.ndL ps i) w (wc.setCell ⟨X+1,A,none⟩ (.bool true))):=by
         refine hd' ((HM4.out.set A true).congr (fun r _=> ?_));rw[B.nd_eq HX.out r];simp only[B.Ins.reads,B.Ins.writes,B.Ins.isW,HO.out,HA.out,HD.out,beq_nat16]
         by_cases e:r=A<;>by_cases e2:r=D<;>(simp[e,e2,Bool.and_comm];try (cases decide (D=A)<;>rfl))
        clear hbb HO;go_wp2_with fail;go_meet;exact HS.out
       ·have HO:=HXO
        have HS:Hid (MidN ps len i X x (B.ndL ps i) w (wc.setCell ⟨X+1,A,none⟩ (.bool true))):=by
         refine hd' ((HM4.out.set A true).congr (fun r _=> ?_));rw[B.nd_eq HX.out r];simp only[B.Ins.reads,B.Ins.writes,B.Ins.isW,HO.out,HA.out,HD.out,beq_nat16]
         by_cases e:r=A<;>by_cases e2:r=D<;>(simp[e,e2,Bool.and_comm];try (cases decide (D=A)<;>rfl))
        clear hbb HO;go_wp2_with fail;go_meet;exact HS.out
       ·have HO:=HXO
        have HS:Hid (MidN ps len i X x (B.ndL ps i) w (wc.setCell ⟨X+1,A,none⟩ (.bool true))):=by
         refine hd' ((HM4.out.set A true).congr (fun r _=> ?_));rw[B.nd_eq HX.out r];simp only[B.Ins.reads,B.Ins.writes,B.Ins.isW,HO.out,HA.out,HD.out,beq_nat16]
         by_cases e:r=A<;>by_cases e2:r=D<;>(simp[e,e2,Bool.and_comm];try (cases decide (D=A)<;>rfl))
        clear hbb HO;go_wp2_with fail;go_meet;exact HS.out
       ·have HO:=HXO
        have HS:Hid (MidN ps len i X x (B.ndL ps i) w (wc.setCell ⟨X+1,A,none⟩ (.bool true))):=by
         refine hd' ((HM4.out.set A true).congr (fun r _=> ?_));rw[B.nd_eq HX.out r];simp only[B.Ins.reads,B.Ins.writes,B.Ins.isW,HO.out,HA.out,HD.out,beq_nat16]
         by_cases e:r=A<;>by_cases e2:r=D<;>(simp[e,e2,Bool.and_comm];try (cases decide (D=A)<;>rfl))
        clear hbb HO;go_wp2_with fail;go_meet;exact HS.out
       ·have HO:=HXO
        have HS:Hid (MidN ps len i X x (B.ndL ps i) w (wc.setCell ⟨X+1,A,none⟩ (.bool false))):=by
         refine hd' ((HM4.out.set A false).congr (fun r _=> ?_));rw[B.nd_eq HX.out r];simp only[B.Ins.reads,B.Ins.writes,B.Ins.isW,HO.out,HA.out,HD.out,beq_nat16]
         by_cases e:r=A<;>by_cases e2:r=D<;>(simp[e,e2,Bool.and_comm];try (cases decide (D=A)<;>rfl))
        clear hbb HO;go_wp2_with fail;go_meet;exact HS.out
       ·have HO:=HXO
        have HS:Hid (MidN ps len i X x (B.ndL ps i) w (wc.setCell ⟨X+1,A,none⟩ (.bool true))):=by
         refine hd' ((HM4.out.set A true).congr (fun r _=> ?_));rw[B.nd_eq HX.out r];simp only[B.Ins.reads,B.Ins.writes,B.Ins.isW,HO.out,HA.out,HD.out,beq_nat16]
         by_cases e:r=A<;>by_cases e2:r=D<;>(simp[e,e2,Bool.and_comm];try (cases decide (D=A)<;>rfl))
        clear hbb HO;go_wp2_with fail;go_meet;exact HS.out
       ·have HO:=HXO
        have HS:Hid (MidN ps len i X x (B.ndL ps i) w (wc.setCell ⟨X+1,A,none⟩ (.bool true))):=by
         refine hd' ((HM4.out.set A true).congr (fun r _=> ?_));rw[B.nd_eq HX.out r];simp only[B.Ins.reads,B.Ins.writes,B.Ins.isW,HO.out,HA.out,HD.out,beq_nat16]
         by_cases e:r=A<;>by_cases e2:r=D<;>(simp[e,e2,Bool.and_comm];try (cases decide (D=A)<;>rfl))
        clear hbb HO;go_wp2_with fail;go_meet;exact HS.out
       ·have HO:=HXO
        have HS:Hid (MidN ps len i X x (B.ndL ps i) w (wc)):=by
         refine hd' ((HM4.out).congr (fun r _=> ?_));rw[B.nd_eq HX.out r];simp only[B.Ins.reads,B.Ins.writes,B.Ins.isW,HO.out,HA.out,HD.out,beq_nat16]
         by_cases e:r=A<;>by_cases e2:r=D<;>(simp[e,e2,Bool.and_comm];try (cases decide (D=A)<;>rfl))
        clear hbb HO;go_wp2_with fail;go_meet;exact HS.out
       ·have HO:=HXO
        have HS:Hid (MidN ps len i X x (B.ndL ps i) w (wc.setCell ⟨X+1,A,none⟩ (.bool true))):=by
         refine hd' ((HM4.out.set A true).congr (fun r _=> ?_));rw[B.nd_eq HX.out r];simp only[B.Ins.reads,B.Ins.writes,B.Ins.isW,HO.out,HA.out,HD.out,beq_nat16]
         by_cases e:r=A<;>by_cases e2:r=D<;>(simp[e,e2,Bool.and_comm];try (cases decide (D=A)<;>rfl))
        clear hbb HO;go_wp2_with fail;go_meet;exact HS.out
      case rest=>
       have HRG:=hd' (RegsIn.range hcut.out);have HTR:=hd' (CellsAt.there hcut.at_.rd (o:=i*16) (m:=16) (by omega));have HN2:=hd' hcut.fin
       have i1:(i:Int)<(len:Int)+1:=by omega
       obtain⟨g,hg⟩:∃g,B.ndL ps i=g:=⟨_,rfl⟩;rw[hg]at HRG HN2;clear hg hcut HM4 c0 c1 c2 cA fA fB hop hbb
       go_upto_region 4 with(first
        | refine wpList_load_mid (by rfl) 82 _ (by rfl) (X+1) 0 (by rfl) (regsF g).toList _ HRG.out Tryz.underlying82 (by rfl) (by rw[info82];rfl) ?_
        | refine wpList_store_mid (by rfl) 82 _ _ (by rfl) w.heap.size (i*16) (regsF g) (by rfl) (by rfl) HTR.out (by rw[info82];rfl) (regsF_ones _) ?_)
       obtain⟨wz,hwz⟩:∃wz,wc.setCells w.heap.size (i*16) (regsF g).toList=wz:=⟨_,rfl⟩;rw[hwz]at HN2;rw[hwz];clear hwz HTR HRG;go_wp2_with fail
       go_roundg i
       case measure=>omega
       case rel=>exact⟨rfl,by omega,HN2.out⟩
end Code
end Go.Proofs.YtpibampaobncaaaGreatDoor
namespace Go.Proofs.YtpibampaobncaaaGreatDoor
open Go.RowKit
namespace Code
attribute [local go_sem ↓] Go.wp_at_zero Go.wp_at_succ
theorem fown_one(x:B.Ins)(w:World)(base X:Nat)(hb:base≤w.heap.size)(hX:X=w.heap.size):OwnP (w.alloc (.cells #[.int .i64 x.op,.int .i64 x.a,.int .i64 x.b,.int .i64 x.n,.int .u64 x.imm] 25)) base (some ⟨X,0,none⟩) 1 1 [x]:=by
 subst hX;exact⟨rfl,World.ownsRow_lit w _ 1 hb (by simp[maxLen]) rfl⟩
theorem fown_two(x y:B.Ins)(w:World)(base X:Nat)(hb:base≤w.heap.size)(hX:X=w.heap.size):OwnP (w.alloc (.cells #[.int .i64 x.op,.int .i64 x.a,.int .i64 x.b,.int .i64 x.n,.int .u64 x.imm,.int .i64 y.op,.int .i64 y.a,.int .i64 y.b,.int .i64 y.n,.int .u64 y.imm] 25)) base (some ⟨X,0,none⟩) 2 2 [x,y]:=by
 subst hX;exact⟨rfl,World.ownsRow_lit w _ 2 hb (by simp[maxLen]) rfl⟩
theorem own_weaken{w:World}{base base':Nat}{ao:Option Addr}{n cap:Nat}{qs:List B.Ins}(h:OwnP w base ao n cap qs)(hb:base'≤base):OwnP w base' ao n cap qs:=by
 refine⟨h.len,h.own.1, ?_⟩;rcases h.own.2 with h0 | ⟨g,c,cur,h1,h2,h3⟩
 ·exact .inl h0
 ·exact .inr ⟨g,c,cur,h1,Nat.le_trans hb h2,h3⟩
def CodeOut(l:List B.Ins)(w:World)(e:Ending)(w':World):Prop:=∃ao cp,e= .returned (.slice ao l.length cp)∧OwnP w' w.heap.size ao l.length cp l∧Below w.heap.size w w'
theorem CodeOut.mk{l:List B.Ins}{w w':World}{ao:Option Addr}{n cp:Nat}(h:OwnP w' (w.heap.size+1) ao n cp l)(hb:Below w.heap.size w w'):CodeOut l w (.returned (.slice ao n cp)) w':=by
 have:=h.len;subst this;exact⟨ao,cp,rfl,own_weaken h (by omega),hb⟩
set_option maxRecDepth 100000 in
set_option maxHeartbeats 3200000 in
theorem code_in_up(m:B.Mv)(hm:m.Ok)(hi:m.inn=true)(hs:0<m.sh)(w:World):
    Calls Tryz.prog 31 #[.agg (mvF m)] w (CodeOut m.code w):=by
 have hb8:m.b≤8:=by have:=hm.be;have:=hm.e8;omega
 have he8:m.e≤8:=hm.e8;have hbe:m.b<m.e:=hm.be;have h0:=hm.sh0;have h1:=hm.sh1
 have hsh:m.way-8*(m.b:Int)=m.sh:=by unfold B.Mv.sh;rw[hi];rfl
 have hwb:m.way=m.sh+8*(m.b:Int):=by omega
 have HCD:Hid (m.code=([⟨2,m.t,m.v,0,0⟩]++[⟨6,m.t,0,m.sh,0⟩])++[⟨13,m.t,m.b,(m.e:Int)-(m.b:Int),m.bits⟩]):=by
  refine hd' ?_;unfold B.Mv.code;rw[if_pos hi];unfold B.Mv.mid;rw[if_pos hs];rfl
 obtain⟨w0,hw0⟩:∃w0,w.alloc (.cells (mvF m) 60)=w0:=⟨_,rfl⟩
 have hz0:w0.heap.size=w.heap.size+1:=by rw[←hw0];simp
 have HM0:Hid (MvIn w0 w.heap.size m):=by rw[←hw0];exact hd' (MvIn.new m w)
 have HB0:Hid (Below w.heap.size w w0):=by rw[←hw0];exact hd' ((Below.refl _ _).alloc (lR' _) _)
 obtain⟨w1,hw1⟩:∃w1,w0.alloc (.cells #[.int .i64 2,.int .i64 m.t,.int .i64 m.v,.int .i64 0,.int .u64 0] 25)=w1:=⟨_,rfl⟩
 have HB01:Hid (Below w0.heap.size w0 w1):=by rw[←hw1];exact hd' ((Below.refl w0.heap.size w0).alloc (lR' _) _)
 have HM1:Hid (MvIn w1 w.heap.size m):=hd' (CellsAt.below HM0.out HB01.out (by omega));have HB1:Hid (Below w.heap.size w w1):=hd' (HB0.out.trans (HB01.out.mono (by omega)))
 have HO1:Hid (OwnP w1 (w.heap.size+1) (some ⟨w.heap.size+1,0,none⟩) 1 1 [⟨2,m.t,m.v,0,0⟩]):=by rw[←hw1];exact hd' (fown_one ⟨2,m.t,m.v,0,0⟩ _ _ _ (by omega) (by omega))
 have hz1:w.heap.size+1≤w1.heap.size:=by have:=HB01.out.size;omega
 have c0:w0.cell? ⟨w.heap.size,0,none⟩=some (.bool true):=by have:=CellsAt.cell HM0.out (j:=0) (by omega);rw[this];show some (Value.bool m.inn)=_;rw[hi]
 have c1:w0.cell? ⟨w.heap.size,1,none⟩=some (.int .i64 m.t):=CellsAt.cell HM0.out (j:=1) (by omega);have c2:w0.cell? ⟨w.heap.size,2,none⟩=some (.int .i64 m.v):=CellsAt.cell HM0.out (j:=2) (by omega);have c3:w0.cell? ⟨w.heap.size,3,none⟩=some (.int .i64 m.way):=CellsAt.cell HM0.out (j:=3) (by omega);have c4:w0.cell? ⟨w.heap.size,4,none⟩=some (.int .i64 m.b):=CellsAt.cell HM0.out (j:=4) (by omega);have c5:w0.cell? ⟨w.heap.size,5,none⟩=some (.int .i64 m.e):=CellsAt.cell HM0.out (j:=5) (by omega);have c6:w0.cell? ⟨w.heap.size,6,none⟩=some (.int .u64 m.bits):=CellsAt.cell HM0.out (j:=6) (by omega);have k1:IntKind.i64.wrap (8*(m.b:Int))=8*(m.b:Int):=IntWalk.i64_in _ (by omega)
 have k2:IntKind.i64.wrap (m.way-8*(m.b:Int))=m.sh:=by rw[hsh];exact IntWalk.i64_in _ (by omega)
 have k3:IntKind.i64.wrap ((m.e:Int)-(m.b:Int))=(m.e:Int)-(m.b:Int):=IntWalk.i64_in _ (by omega);have k4:IntKind.i64.wrap (-m.sh)= -m.sh:=IntWalk.i64_in _ (by omega)
 have q1:decide (m.sh<0)=false:=by simp;omega
 clear hm hb8 he8 hbe h0 h1 hsh hwb;have HI:=hd' hi;clear hi;obtain⟨s,hss⟩:∃s,m.sh=s:=⟨_,rfl⟩;rw[hss]at k2 k4 HCD q1 hs;clear hss;rw[HCD.out];clear HCD
 have d0:w1.cell? ⟨w.heap.size,0,none⟩=some (.bool true):=by have:=CellsAt.cell HM1.out (j:=0) (by omega);rw[this];show some (Value.bool m.inn)=_;rw[HI.out]
 have d1:w1.cell? ⟨w.heap.size,1,none⟩=some (.int .i64 m.t):=CellsAt.cell HM1.out (j:=1) (by omega);have d2:w1.cell? ⟨w.heap.size,2,none⟩=some (.int .i64 m.v):=CellsAt.cell HM1.out (j:=2) (by omega);have d3:w1.cell? ⟨w.heap.size,3,none⟩=some (.int .i64 m.way):=CellsAt.cell HM1.out (j:=3) (by omega);have d4:w1.cell? ⟨w.heap.size,4,none⟩=some (.int .i64 m.b):=CellsAt.cell HM1.out (j:=4) (by omega);have d5:w1.cell? ⟨w.heap.size,5,none⟩=some (.int .i64 m.e):=CellsAt.cell HM1.out (j:=5) (by omega);have d6:w1.cell? ⟨w.heap.size,6,none⟩=some (.int .u64 m.bits):=CellsAt.cell HM1.out (j:=6) (by omega);go_enter Tryz.func31,Tryz.ntmps31
 go_upto_region 1 with fail
 clear hw0
 go_upto_region 7 with fail
 clear hw1 c0 c1 c2 c3 c4 c5 c6
 go_upto_region 10 with(at_builtin;refine app_ins rfl _ _ rfl (w.heap.size+1) rfl HO1.out rfl (by omega) hz1 ?_;intro ao2 cp2 w2 hown2 hb2 hsz2)
 have HO2:=hd' hown2;have HB2:Hid (Below w.heap.size w w2):=hd' (HB1.out.trans (hb2.mono (by omega)));have HM2:Hid (MvIn w2 w.heap.size m):=hd' (CellsAt.below HM1.out hb2 (by omega))
 have hz2:w.heap.size+1≤w2.heap.size:=by omega
 clear hown2 hb2 d0 d1 d2 d3 d4 d5 d6 HM1 HO1 HB1
 have d0:w2.cell? ⟨w.heap.size,0,none⟩=some (.bool true):=by have:=CellsAt.cell HM2.out (j:=0) (by omega);rw[this];show some (Value.bool m.inn)=_;rw[HI.out]
 have d1:w2.cell? ⟨w.heap.size,1,none⟩=some (.int .i64 m.t):=CellsAt.cell HM2.out (j:=1) (by omega);have d2:w2.cell? ⟨w.heap.size,2,none⟩=some (.int .i64 m.v):=CellsAt.cell HM2.out (j:=2) (by omega);have d3:w2.cell? ⟨w.heap.size,3,none⟩=some (.int .i64 m.way):=CellsAt.cell HM2.out (j:=3) (by omega);have d4:w2.cell? ⟨w.heap.size,4,none⟩=some (.int .i64 m.b):=CellsAt.cell HM2.out (j:=4) (by omega);have d5:w2.cell? ⟨w.heap.size,5,none⟩=some (.int .i64 m.e):=CellsAt.cell HM2.out (j:=5) (by omega);have d6:w2.cell? ⟨w.heap.size,6,none⟩=some (.int .u64 m.bits):=CellsAt.cell HM2.out (j:=6) (by omega);go_wp2_with (at_builtin;refine app_ins rfl _ _ rfl (w.heap.size+1) rfl HO2.out rfl (by omega) hz2 ?_;intro ao3 cp3 w3 hown3 hb3 hsz3);go_ret;exact CodeOut.mk hown3 (HB2.out.trans (hb3.mono (by omega)))
set_option maxRecDepth 100000 in
set_option maxHeartbeats 3200000 in
theorem code_in_down(m:B.Mv)(hm:m.Ok)(hi:m.inn=true)(hs:m.sh<0)(w:World):
    Calls Tryz.prog 31 #[.agg (mvF m)] w (CodeOut m.code w):=by
 have hb8:m.b≤8:=by have:=hm.be;have:=hm.e8;omega
 have he8:m.e≤8:=hm.e8;have hbe:m.b<m.e:=hm.be;have h0:=hm.sh0;have h1:=hm.sh1
 have hsh:m.way-8*(m.b:Int)=m.sh:=by unfold B.Mv.sh;rw[hi];rfl
 have hwb:m.way=m.sh+8*(m.b:Int):=by omega
 have HCD:Hid (m.code=([⟨2,m.t,m.v,0,0⟩]++[⟨7,m.t,0, -m.sh,0⟩])++[⟨13,m.t,m.b,(m.e:Int)-(m.b:Int),m.bits⟩]):=by
  refine hd' ?_;unfold B.Mv.code;rw[if_pos hi];unfold B.Mv.mid;rw[if_neg (by omega),if_pos hs];rfl
 obtain⟨w0,hw0⟩:∃w0,w.alloc (.cells (mvF m) 60)=w0:=⟨_,rfl⟩
 have hz0:w0.heap.size=w.heap.size+1:=by rw[←hw0];simp
 have HM0:Hid (MvIn w0 w.heap.size m):=by rw[←hw0];exact hd' (MvIn.new m w)
 have HB0:Hid (Below w.heap.size w w0):=by rw[←hw0];exact hd' ((Below.refl _ _).alloc (lR' _) _)
 obtain⟨w1,hw1⟩:∃w1,w0.alloc (.cells #[.int .i64 2,.int .i64 m.t,.int .i64 m.v,.int .i64 0,.int .u64 0] 25)=w1:=⟨_,rfl⟩
 have HB01:Hid (Below w0.heap.size w0 w1):=by rw[←hw1];exact hd' ((Below.refl w0.heap.size w0).alloc (lR' _) _)
 have HM1:Hid (MvIn w1 w.heap.size m):=hd' (CellsAt.below HM0.out HB01.out (by omega));have HB1:Hid (Below w.heap.size w w1):=hd' (HB0.out.trans (HB01.out.mono (by omega)))
 have HO1:Hid (OwnP w1 (w.heap.size+1) (some ⟨w.heap.size+1,0,none⟩) 1 1 [⟨2,m.t,m.v,0,0⟩]):=by rw[←hw1];exact hd' (fown_one ⟨2,m.t,m.v,0,0⟩ _ _ _ (by omega) (by omega))
 have hz1:w.heap.size+1≤w1.heap.size:=by have:=HB01.out.size;omega
 have c0:w0.cell? ⟨w.heap.size,0,none⟩=some (.bool true):=by have:=CellsAt.cell HM0.out (j:=0) (by omega);rw[this];show some (Value.bool m.inn)=_;rw[hi]
 have c1:w0.cell? ⟨w.heap.size,1,none⟩=some (.int .i64 m.t):=CellsAt.cell HM0.out (j:=1) (by omega);have c2:w0.cell? ⟨w.heap.size,2,none⟩=some (.int .i64 m.v):=CellsAt.cell HM0.out (j:=2) (by omega);have c3:w0.cell? ⟨w.heap.size,3,none⟩=some (.int .i64 m.way):=CellsAt.cell HM0.out (j:=3) (by omega);have c4:w0.cell? ⟨w.heap.size,4,none⟩=some (.int .i64 m.b):=CellsAt.cell HM0.out (j:=4) (by omega);have c5:w0.cell? ⟨w.heap.size,5,none⟩=some (.int .i64 m.e):=CellsAt.cell HM0.out (j:=5) (by omega);have c6:w0.cell? ⟨w.heap.size,6,none⟩=some (.int .u64 m.bits):=CellsAt.cell HM0.out (j:=6) (by omega);have k1:IntKind.i64.wrap (8*(m.b:Int))=8*(m.b:Int):=IntWalk.i64_in _ (by omega)
 have k2:IntKind.i64.wrap (m.way-8*(m.b:Int))=m.sh:=by rw[hsh];exact IntWalk.i64_in _ (by omega)
 have k3:IntKind.i64.wrap ((m.e:Int)-(m.b:Int))=(m.e:Int)-(m.b:Int):=IntWalk.i64_in _ (by omega);have k4:IntKind.i64.wrap (-m.sh)= -m.sh:=IntWalk.i64_in _ (by omega)
 have q1:decide (0<m.sh)=false:=by simp;omega
 clear hm hb8 he8 hbe h0 h1 hsh hwb;have HI:=hd' hi;clear hi;obtain⟨s,hss⟩:∃s,m.sh=s:=⟨_,rfl⟩;rw[hss]at k2 k4 HCD q1 hs;clear hss;rw[HCD.out];clear HCD
 have d0:w1.cell? ⟨w.heap.size,0,none⟩=some (.bool true):=by have:=CellsAt.cell HM1.out (j:=0) (by omega);rw[this];show some (Value.bool m.inn)=_;rw[HI.out]
 have d1:w1.cell? ⟨w.heap.size,1,none⟩=some (.int .i64 m.t):=CellsAt.cell HM1.out (j:=1) (by omega);have d2:w1.cell? ⟨w.heap.size,2,none⟩=some (.int .i64 m.v):=CellsAt.cell HM1.out (j:=2) (by omega);have d3:w1.cell? ⟨w.heap.size,3,none⟩=some (.int .i64 m.way):=CellsAt.cell HM1.out (j:=3) (by omega);have d4:w1.cell? ⟨w.heap.size,4,none⟩=some (.int .i64 m.b):=CellsAt.cell HM1.out (j:=4) (by omega);have d5:w1.cell? ⟨w.heap.size,5,none⟩=some (.int .i64 m.e):=CellsAt.cell HM1.out (j:=5) (by omega);have d6:w1.cell? ⟨w.heap.size,6,none⟩=some (.int .u64 m.bits):=CellsAt.cell HM1.out (j:=6) (by omega);go_enter Tryz.func31,Tryz.ntmps31
 go_upto_region 1 with fail
 clear hw0
 go_upto_region 9 with fail
 clear hw1 c0 c1 c2 c3 c4 c5 c6
 go_upto_region 10 with(at_builtin;refine app_ins rfl _ _ rfl (w.heap.size+1) rfl HO1.out rfl (by omega) hz1 ?_;intro ao2 cp2 w2 hown2 hb2 hsz2)
 have HO2:=hd' hown2;have HB2:Hid (Below w.heap.size w w2):=hd' (HB1.out.trans (hb2.mono (by omega)));have HM2:Hid (MvIn w2 w.heap.size m):=hd' (CellsAt.below HM1.out hb2 (by omega))
 have hz2:w.heap.size+1≤w2.heap.size:=by omega
 clear hown2 hb2 d0 d1 d2 d3 d4 d5 d6 HM1 HO1 HB1
 have d0:w2.cell? ⟨w.heap.size,0,none⟩=some (.bool true):=by have:=CellsAt.cell HM2.out (j:=0) (by omega);rw[this];show some (Value.bool m.inn)=_;rw[HI.out]
 have d1:w2.cell? ⟨w.heap.size,1,none⟩=some (.int .i64 m.t):=CellsAt.cell HM2.out (j:=1) (by omega);have d2:w2.cell? ⟨w.heap.size,2,none⟩=some (.int .i64 m.v):=CellsAt.cell HM2.out (j:=2) (by omega);have d3:w2.cell? ⟨w.heap.size,3,none⟩=some (.int .i64 m.way):=CellsAt.cell HM2.out (j:=3) (by omega);have d4:w2.cell? ⟨w.heap.size,4,none⟩=some (.int .i64 m.b):=CellsAt.cell HM2.out (j:=4) (by omega);have d5:w2.cell? ⟨w.heap.size,5,none⟩=some (.int .i64 m.e):=CellsAt.cell HM2.out (j:=5) (by omega);have d6:w2.cell? ⟨w.heap.size,6,none⟩=some (.int .u64 m.bits):=CellsAt.cell HM2.out (j:=6) (by omega);go_wp2_with (at_builtin;refine app_ins rfl _ _ rfl (w.heap.size+1) rfl HO2.out rfl (by omega) hz2 ?_;intro ao3 cp3 w3 hown3 hb3 hsz3);go_ret;exact CodeOut.mk hown3 (HB2.out.trans (hb3.mono (by omega)))
set_option maxRecDepth 100000 in
set_option maxHeartbeats 3200000 in
theorem code_in_same(m:B.Mv)(hm:m.Ok)(hi:m.inn=true)(hs:m.sh=0)(w:World):
    Calls Tryz.prog 31 #[.agg (mvF m)] w (CodeOut m.code w):=by
 have hb8:m.b≤8:=by have:=hm.be;have:=hm.e8;omega
 have he8:m.e≤8:=hm.e8;have hbe:m.b<m.e:=hm.be;have h0:=hm.sh0;have h1:=hm.sh1
 have hsh:m.way-8*(m.b:Int)=m.sh:=by unfold B.Mv.sh;rw[hi];rfl
 have hwb:m.way=m.sh+8*(m.b:Int):=by omega
 have HCD:Hid (m.code=([⟨2,m.t,m.v,0,0⟩]++[])++[⟨13,m.t,m.b,(m.e:Int)-(m.b:Int),m.bits⟩]):=by
  refine hd' ?_;unfold B.Mv.code;rw[if_pos hi];unfold B.Mv.mid;rw[if_neg (by omega),if_neg (by omega)];rfl
 obtain⟨w0,hw0⟩:∃w0,w.alloc (.cells (mvF m) 60)=w0:=⟨_,rfl⟩
 have hz0:w0.heap.size=w.heap.size+1:=by rw[←hw0];simp
 have HM0:Hid (MvIn w0 w.heap.size m):=by rw[←hw0];exact hd' (MvIn.new m w)
 have HB0:Hid (Below w.heap.size w w0):=by rw[←hw0];exact hd' ((Below.refl _ _).alloc (lR' _) _)
 obtain⟨w1,hw1⟩:∃w1,w0.alloc (.cells #[.int .i64 2,.int .i64 m.t,.int .i64 m.v,.int .i64 0,.int .u64 0] 25)=w1:=⟨_,rfl⟩
 have HB01:Hid (Below w0.heap.size w0 w1):=by rw[←hw1];exact hd' ((Below.refl w0.heap.size w0).alloc (lR' _) _)
 have HM1:Hid (MvIn w1 w.heap.size m):=hd' (CellsAt.below HM0.out HB01.out (by omega));have HB1:Hid (Below w.heap.size w w1):=hd' (HB0.out.trans (HB01.out.mono (by omega)))
 have HO1:Hid (OwnP w1 (w.heap.size+1) (some ⟨w.heap.size+1,0,none⟩) 1 1 [⟨2,m.t,m.v,0,0⟩]):=by rw[←hw1];exact hd' (fown_one ⟨2,m.t,m.v,0,0⟩ _ _ _ (by omega) (by omega))
 have hz1:w.heap.size+1≤w1.heap.size:=by have:=HB01.out.size;omega
 have c0:w0.cell? ⟨w.heap.size,0,none⟩=some (.bool true):=by have:=CellsAt.cell HM0.out (j:=0) (by omega);rw[this];show some (Value.bool m.inn)=_;rw[hi]
 have c1:w0.cell? ⟨w.heap.size,1,none⟩=some (.int .i64 m.t):=CellsAt.cell HM0.out (j:=1) (by omega);have c2:w0.cell? ⟨w.heap.size,2,none⟩=some (.int .i64 m.v):=CellsAt.cell HM0.out (j:=2) (by omega);have c3:w0.cell? ⟨w.heap.size,3,none⟩=some (.int .i64 m.way):=CellsAt.cell HM0.out (j:=3) (by omega);have c4:w0.cell? ⟨w.heap.size,4,none⟩=some (.int .i64 m.b):=CellsAt.cell HM0.out (j:=4) (by omega);have c5:w0.cell? ⟨w.heap.size,5,none⟩=some (.int .i64 m.e):=CellsAt.cell HM0.out (j:=5) (by omega);have c6:w0.cell? ⟨w.heap.size,6,none⟩=some (.int .u64 m.bits):=CellsAt.cell HM0.out (j:=6) (by omega);have k1:IntKind.i64.wrap (8*(m.b:Int))=8*(m.b:Int):=IntWalk.i64_in _ (by omega)
 have k2:IntKind.i64.wrap (m.way-8*(m.b:Int))=m.sh:=by rw[hsh];exact IntWalk.i64_in _ (by omega)
 have k3:IntKind.i64.wrap ((m.e:Int)-(m.b:Int))=(m.e:Int)-(m.b:Int):=IntWalk.i64_in _ (by omega);have k4:IntKind.i64.wrap (-m.sh)= -m.sh:=IntWalk.i64_in _ (by omega);clear hm hb8 he8 hbe h0 h1 hsh hwb;have HI:=hd' hi;clear hi;rw[hs]at k2;clear hs k4;rw[HCD.out];clear HCD
 have d0:w1.cell? ⟨w.heap.size,0,none⟩=some (.bool true):=by have:=CellsAt.cell HM1.out (j:=0) (by omega);rw[this];show some (Value.bool m.inn)=_;rw[HI.out]
 have d1:w1.cell? ⟨w.heap.size,1,none⟩=some (.int .i64 m.t):=CellsAt.cell HM1.out (j:=1) (by omega);have d2:w1.cell? ⟨w.heap.size,2,none⟩=some (.int .i64 m.v):=CellsAt.cell HM1.out (j:=2) (by omega);have d3:w1.cell? ⟨w.heap.size,3,none⟩=some (.int .i64 m.way):=CellsAt.cell HM1.out (j:=3) (by omega);have d4:w1.cell? ⟨w.heap.size,4,none⟩=some (.int .i64 m.b):=CellsAt.cell HM1.out (j:=4) (by omega);have d5:w1.cell? ⟨w.heap.size,5,none⟩=some (.int .i64 m.e):=CellsAt.cell HM1.out (j:=5) (by omega);have d6:w1.cell? ⟨w.heap.size,6,none⟩=some (.int .u64 m.bits):=CellsAt.cell HM1.out (j:=6) (by omega);go_enter Tryz.func31,Tryz.ntmps31
 go_upto_region 1 with fail
 clear hw0
 go_upto_region 10 with fail
 clear hw1 c0 c1 c2 c3 c4 c5 c6;go_wp2_with (at_builtin;refine app_ins rfl _ _ rfl (w.heap.size+1) rfl HO1.out rfl (by omega) hz1 ?_;intro ao3 cp3 w3 hown3 hb3 hsz3);go_ret;exact CodeOut.mk (by simpa using hown3) (HB1.out.trans (hb3.mono (by omega)))
set_option maxRecDepth 100000 in
set_option maxHeartbeats 3200000 in
theorem code_out_up(m:B.Mv)(hm:m.Ok)(hi:m.inn=false)(hs:0<m.sh)(w:World):
    Calls Tryz.prog 31 #[.agg (mvF m)] w (CodeOut m.code w):=by
 have hb8:m.b≤8:=by have:=hm.be;have:=hm.e8;omega
 have he8:m.e≤8:=hm.e8;have hbe:m.b<m.e:=hm.be;have h0:=hm.sh0;have h1:=hm.sh1
 have hsh:m.way+8*(m.b:Int)=m.sh:=by unfold B.Mv.sh;rw[hi];rfl
 have hwb:m.way=m.sh-8*(m.b:Int):=by omega
 have HCD:Hid (m.code=([⟨9,m.t,m.b,(m.e:Int)-(m.b:Int),0⟩,⟨8,m.t,0,0,m.bits⟩]++[⟨6,m.t,0,m.sh,0⟩])++[⟨4,m.v,m.t,0,0⟩]):=by
  refine hd' ?_;unfold B.Mv.code;rw[if_neg (by rw[hi];decide)];unfold B.Mv.mid;rw[if_pos hs];rfl
 obtain⟨w0,hw0⟩:∃w0,w.alloc (.cells (mvF m) 60)=w0:=⟨_,rfl⟩
 have hz0:w0.heap.size=w.heap.size+1:=by rw[←hw0];simp
 have HM0:Hid (MvIn w0 w.heap.size m):=by rw[←hw0];exact hd' (MvIn.new m w)
 have HB0:Hid (Below w.heap.size w w0):=by rw[←hw0];exact hd' ((Below.refl _ _).alloc (lR' _) _)
 obtain⟨w1,hw1⟩:∃w1,(w0.alloc (.cells #[.int .i64 2,.int .i64 m.t,.int .i64 m.v,.int .i64 0,.int .u64 0] 25)).alloc (.cells #[.int .i64 9,.int .i64 m.t,.int .i64 m.b,.int .i64 ((m.e:Int)-(m.b:Int)),.int .u64 0,.int .i64 8,.int .i64 m.t,.int .i64 0,.int .i64 0,.int .u64 m.bits] 25)=w1:=⟨_,rfl⟩
 have HB01:Hid (Below w0.heap.size w0 w1):=by rw[←hw1];exact hd' (((Below.refl w0.heap.size w0).alloc (lR' _) _).alloc (by simp) _)
 have HM1:Hid (MvIn w1 w.heap.size m):=hd' (CellsAt.below HM0.out HB01.out (by omega));have HB1:Hid (Below w.heap.size w w1):=hd' (HB0.out.trans (HB01.out.mono (by omega)))
 have HO1:Hid (OwnP w1 (w.heap.size+1) (some ⟨w.heap.size+1+1,0,none⟩) 2 2 [⟨9,m.t,m.b,(m.e:Int)-(m.b:Int),0⟩,⟨8,m.t,0,0,m.bits⟩]):=by rw[←hw1];exact hd' (fown_two ⟨9,m.t,m.b,(m.e:Int)-(m.b:Int),0⟩ ⟨8,m.t,0,0,m.bits⟩ _ _ _ (by simp;omega) (by simp;omega))
 have hz1:w.heap.size+1≤w1.heap.size:=by have:=HB01.out.size;omega
 have c0:w0.cell? ⟨w.heap.size,0,none⟩=some (.bool false):=by have:=CellsAt.cell HM0.out (j:=0) (by omega);rw[this];show some (Value.bool m.inn)=_;rw[hi]
 have c1:w0.cell? ⟨w.heap.size,1,none⟩=some (.int .i64 m.t):=CellsAt.cell HM0.out (j:=1) (by omega);have c2:w0.cell? ⟨w.heap.size,2,none⟩=some (.int .i64 m.v):=CellsAt.cell HM0.out (j:=2) (by omega);have c3:w0.cell? ⟨w.heap.size,3,none⟩=some (.int .i64 m.way):=CellsAt.cell HM0.out (j:=3) (by omega);have c4:w0.cell? ⟨w.heap.size,4,none⟩=some (.int .i64 m.b):=CellsAt.cell HM0.out (j:=4) (by omega);have c5:w0.cell? ⟨w.heap.size,5,none⟩=some (.int .i64 m.e):=CellsAt.cell HM0.out (j:=5) (by omega);have c6:w0.cell? ⟨w.heap.size,6,none⟩=some (.int .u64 m.bits):=CellsAt.cell HM0.out (j:=6) (by omega);have k1:IntKind.i64.wrap (8*(m.b:Int))=8*(m.b:Int):=IntWalk.i64_in _ (by omega);have k2':IntKind.i64.wrap (m.way-8*(m.b:Int))=m.way-8*(m.b:Int):=IntWalk.i64_in _ (by omega)
 have k2:IntKind.i64.wrap (m.way+8*(m.b:Int))=m.sh:=by rw[hsh];exact IntWalk.i64_in _ (by omega)
 have k3:IntKind.i64.wrap ((m.e:Int)-(m.b:Int))=(m.e:Int)-(m.b:Int):=IntWalk.i64_in _ (by omega);have k4:IntKind.i64.wrap (-m.sh)= -m.sh:=IntWalk.i64_in _ (by omega)
 have q1:decide (m.sh<0)=false:=by simp;omega
 clear hm hb8 he8 hbe h0 h1 hsh hwb;have HI:=hd' hi;clear hi;obtain⟨s,hss⟩:∃s,m.sh=s:=⟨_,rfl⟩;rw[hss]at k2 k4 HCD q1 hs;clear hss;rw[HCD.out];clear HCD
 have d0:w1.cell? ⟨w.heap.size,0,none⟩=some (.bool false):=by have:=CellsAt.cell HM1.out (j:=0) (by omega);rw[this];show some (Value.bool m.inn)=_;rw[HI.out]
 have d1:w1.cell? ⟨w.heap.size,1,none⟩=some (.int .i64 m.t):=CellsAt.cell HM1.out (j:=1) (by omega);have d2:w1.cell? ⟨w.heap.size,2,none⟩=some (.int .i64 m.v):=CellsAt.cell HM1.out (j:=2) (by omega);have d3:w1.cell? ⟨w.heap.size,3,none⟩=some (.int .i64 m.way):=CellsAt.cell HM1.out (j:=3) (by omega);have d4:w1.cell? ⟨w.heap.size,4,none⟩=some (.int .i64 m.b):=CellsAt.cell HM1.out (j:=4) (by omega);have d5:w1.cell? ⟨w.heap.size,5,none⟩=some (.int .i64 m.e):=CellsAt.cell HM1.out (j:=5) (by omega);have d6:w1.cell? ⟨w.heap.size,6,none⟩=some (.int .u64 m.bits):=CellsAt.cell HM1.out (j:=6) (by omega);go_enter Tryz.func31,Tryz.ntmps31
 go_upto_region 1 with fail
 clear hw0
 go_upto_region 7 with fail
 clear hw1 c0 c1 c2 c3 c4 c5 c6
 go_upto_region 10 with(at_builtin;refine app_ins rfl _ _ rfl (w.heap.size+1) rfl HO1.out rfl (by omega) hz1 ?_;intro ao2 cp2 w2 hown2 hb2 hsz2)
 have HO2:=hd' hown2;have HB2:Hid (Below w.heap.size w w2):=hd' (HB1.out.trans (hb2.mono (by omega)));have HM2:Hid (MvIn w2 w.heap.size m):=hd' (CellsAt.below HM1.out hb2 (by omega))
 have hz2:w.heap.size+1≤w2.heap.size:=by omega
 clear hown2 hb2 d0 d1 d2 d3 d4 d5 d6 HM1 HO1 HB1
 have d0:w2.cell? ⟨w.heap.size,0,none⟩=some (.bool false):=by have:=CellsAt.cell HM2.out (j:=0) (by omega);rw[this];show some (Value.bool m.inn)=_;rw[HI.out]
 have d1:w2.cell? ⟨w.heap.size,1,none⟩=some (.int .i64 m.t):=CellsAt.cell HM2.out (j:=1) (by omega);have d2:w2.cell? ⟨w.heap.size,2,none⟩=some (.int .i64 m.v):=CellsAt.cell HM2.out (j:=2) (by omega);have d3:w2.cell? ⟨w.heap.size,3,none⟩=some (.int .i64 m.way):=CellsAt.cell HM2.out (j:=3) (by omega);have d4:w2.cell? ⟨w.heap.size,4,none⟩=some (.int .i64 m.b):=CellsAt.cell HM2.out (j:=4) (by omega);have d5:w2.cell? ⟨w.heap.size,5,none⟩=some (.int .i64 m.e):=CellsAt.cell HM2.out (j:=5) (by omega);have d6:w2.cell? ⟨w.heap.size,6,none⟩=some (.int .u64 m.bits):=CellsAt.cell HM2.out (j:=6) (by omega);go_wp2_with (at_builtin;refine app_ins rfl _ _ rfl (w.heap.size+1) rfl HO2.out rfl (by omega) hz2 ?_;intro ao3 cp3 w3 hown3 hb3 hsz3);go_ret;exact CodeOut.mk hown3 (HB2.out.trans (hb3.mono (by omega)))
set_option maxRecDepth 100000 in
set_option maxHeartbeats 3200000 in
theorem code_out_down(m:B.Mv)(hm:m.Ok)(hi:m.inn=false)(hs:m.sh<0)(w:World):
    Calls Tryz.prog 31 #[.agg (mvF m)] w (CodeOut m.code w):=by
 have hb8:m.b≤8:=by have:=hm.be;have:=hm.e8;omega
 have he8:m.e≤8:=hm.e8;have hbe:m.b<m.e:=hm.be;have h0:=hm.sh0;have h1:=hm.sh1
 have hsh:m.way+8*(m.b:Int)=m.sh:=by unfold B.Mv.sh;rw[hi];rfl
 have hwb:m.way=m.sh-8*(m.b:Int):=by omega
 have HCD:Hid (m.code=([⟨9,m.t,m.b,(m.e:Int)-(m.b:Int),0⟩,⟨8,m.t,0,0,m.bits⟩]++[⟨7,m.t,0, -m.sh,0⟩])++[⟨4,m.v,m.t,0,0⟩]):=by
  refine hd' ?_;unfold B.Mv.code;rw[if_neg (by rw[hi];decide)];unfold B.Mv.mid;rw[if_neg (by omega),if_pos hs];rfl
 obtain⟨w0,hw0⟩:∃w0,w.alloc (.cells (mvF m) 60)=w0:=⟨_,rfl⟩
 have hz0:w0.heap.size=w.heap.size+1:=by rw[←hw0];simp
 have HM0:Hid (MvIn w0 w.heap.size m):=by rw[←hw0];exact hd' (MvIn.new m w)
 have HB0:Hid (Below w.heap.size w w0):=by rw[←hw0];exact hd' ((Below.refl _ _).alloc (lR' _) _)
 obtain⟨w1,hw1⟩:∃w1,(w0.alloc (.cells #[.int .i64 2,.int .i64 m.t,.int .i64 m.v,.int .i64 0,.int .u64 0] 25)).alloc (.cells #[.int .i64 9,.int .i64 m.t,.int .i64 m.b,.int .i64 ((m.e:Int)-(m.b:Int)),.int .u64 0,.int .i64 8,.int .i64 m.t,.int .i64 0,.int .i64 0,.int .u64 m.bits] 25)=w1:=⟨_,rfl⟩
 have HB01:Hid (Below w0.heap.size w0 w1):=by rw[←hw1];exact hd' (((Below.refl w0.heap.size w0).alloc (lR' _) _).alloc (by simp) _)
 have HM1:Hid (MvIn w1 w.heap.size m):=hd' (CellsAt.below HM0.out HB01.out (by omega));have HB1:Hid (Below w.heap.size w w1):=hd' (HB0.out.trans (HB01.out.mono (by omega)))
 have HO1:Hid (OwnP w1 (w.heap.size+1) (some ⟨w.heap.size+1+1,0,none⟩) 2 2 [⟨9,m.t,m.b,(m.e:Int)-(m.b:Int),0⟩,⟨8,m.t,0,0,m.bits⟩]):=by rw[←hw1];exact hd' (fown_two ⟨9,m.t,m.b,(m.e:Int)-(m.b:Int),0⟩ ⟨8,m.t,0,0,m.bits⟩ _ _ _ (by simp;omega) (by simp;omega))
 have hz1:w.heap.size+1≤w1.heap.size:=by have:=HB01.out.size;omega
 have c0:w0.cell? ⟨w.heap.size,0,none⟩=some (.bool false):=by have:=CellsAt.cell HM0.out (j:=0) (by omega);rw[this];show some (Value.bool m.inn)=_;rw[hi]
 have c1:w0.cell? ⟨w.heap.size,1,none⟩=some (.int .i64 m.t):=CellsAt.cell HM0.out (j:=1) (by omega);have c2:w0.cell? ⟨w.heap.size,2,none⟩=some (.int .i64 m.v):=CellsAt.cell HM0.out (j:=2) (by omega);have c3:w0.cell? ⟨w.heap.size,3,none⟩=some (.int .i64 m.way):=CellsAt.cell HM0.out (j:=3) (by omega);have c4:w0.cell? ⟨w.heap.size,4,none⟩=some (.int .i64 m.b):=CellsAt.cell HM0.out (j:=4) (by omega);have c5:w0.cell? ⟨w.heap.size,5,none⟩=some (.int .i64 m.e):=CellsAt.cell HM0.out (j:=5) (by omega);have c6:w0.cell? ⟨w.heap.size,6,none⟩=some (.int .u64 m.bits):=CellsAt.cell HM0.out (j:=6) (by omega);have k1:IntKind.i64.wrap (8*(m.b:Int))=8*(m.b:Int):=IntWalk.i64_in _ (by omega);have k2':IntKind.i64.wrap (m.way-8*(m.b:Int))=m.way-8*(m.b:Int):=IntWalk.i64_in _ (by omega)
 have k2:IntKind.i64.wrap (m.way+8*(m.b:Int))=m.sh:=by rw[hsh];exact IntWalk.i64_in _ (by omega)
 have k3:IntKind.i64.wrap ((m.e:Int)-(m.b:Int))=(m.e:Int)-(m.b:Int):=IntWalk.i64_in _ (by omega);have k4:IntKind.i64.wrap (-m.sh)= -m.sh:=IntWalk.i64_in _ (by omega)
 have q1:decide (0<m.sh)=false:=by simp;omega
 clear hm hb8 he8 hbe h0 h1 hsh hwb;have HI:=hd' hi;clear hi;obtain⟨s,hss⟩:∃s,m.sh=s:=⟨_,rfl⟩;rw[hss]at k2 k4 HCD q1 hs;clear hss;rw[HCD.out];clear HCD
 have d0:w1.cell? ⟨w.heap.size,0,none⟩=some (.bool false):=by have:=CellsAt.cell HM1.out (j:=0) (by omega);rw[this];show some (Value.bool m.inn)=_;rw[HI.out]
 have d1:w1.cell? ⟨w.heap.size,1,none⟩=some (.int .i64 m.t):=CellsAt.cell HM1.out (j:=1) (by omega);have d2:w1.cell? ⟨w.heap.size,2,none⟩=some (.int .i64 m.v):=CellsAt.cell HM1.out (j:=2) (by omega);have d3:w1.cell? ⟨w.heap.size,3,none⟩=some (.int .i64 m.way):=CellsAt.cell HM1.out (j:=3) (by omega);have d4:w1.cell? ⟨w.heap.size,4,none⟩=some (.int .i64 m.b):=CellsAt.cell HM1.out (j:=4) (by omega);have d5:w1.cell? ⟨w.heap.size,5,none⟩=some (.int .i64 m.e):=CellsAt.cell HM1.out (j:=5) (by omega);have d6:w1.cell? ⟨w.heap.size,6,none⟩=some (.int .u64 m.bits):=CellsAt.cell HM1.out (j:=6) (by omega);go_enter Tryz.func31,Tryz.ntmps31
 go_upto_region 1 with fail
 clear hw0
 go_upto_region 9 with fail
 clear hw1 c0 c1 c2 c3 c4 c5 c6
 go_upto_region 10 with(at_builtin;refine app_ins rfl _ _ rfl (w.heap.size+1) rfl HO1.out rfl (by omega) hz1 ?_;intro ao2 cp2 w2 hown2 hb2 hsz2)
 have HO2:=hd' hown2;have HB2:Hid (Below w.heap.size w w2):=hd' (HB1.out.trans (hb2.mono (by omega)));have HM2:Hid (MvIn w2 w.heap.size m):=hd' (CellsAt.below HM1.out hb2 (by omega))
 have hz2:w.heap.size+1≤w2.heap.size:=by omega
 clear hown2 hb2 d0 d1 d2 d3 d4 d5 d6 HM1 HO1 HB1
 have d0:w2.cell? ⟨w.heap.size,0,none⟩=some (.bool false):=by have:=CellsAt.cell HM2.out (j:=0) (by omega);rw[this];show some (Value.bool m.inn)=_;rw[HI.out]
 have d1:w2.cell? ⟨w.heap.size,1,none⟩=some (.int .i64 m.t):=CellsAt.cell HM2.out (j:=1) (by omega);have d2:w2.cell? ⟨w.heap.size,2,none⟩=some (.int .i64 m.v):=CellsAt.cell HM2.out (j:=2) (by omega);have d3:w2.cell? ⟨w.heap.size,3,none⟩=some (.int .i64 m.way):=CellsAt.cell HM2.out (j:=3) (by omega);have d4:w2.cell? ⟨w.heap.size,4,none⟩=some (.int .i64 m.b):=CellsAt.cell HM2.out (j:=4) (by omega);have d5:w2.cell? ⟨w.heap.size,5,none⟩=some (.int .i64 m.e):=CellsAt.cell HM2.out (j:=5) (by omega);have d6:w2.cell? ⟨w.heap.size,6,none⟩=some (.int .u64 m.bits):=CellsAt.cell HM2.out (j:=6) (by omega);go_wp2_with (at_builtin;refine app_ins rfl _ _ rfl (w.heap.size+1) rfl HO2.out rfl (by omega) hz2 ?_;intro ao3 cp3 w3 hown3 hb3 hsz3);go_ret;exact CodeOut.mk hown3 (HB2.out.trans (hb3.mono (by omega)))
set_option maxRecDepth 100000 in
set_option maxHeartbeats 3200000 in
theorem code_out_same(m:B.Mv)(hm:m.Ok)(hi:m.inn=false)(hs:m.sh=0)(w:World):
    Calls Tryz.prog 31 #[.agg (mvF m)] w (CodeOut m.code w):=by
 have hb8:m.b≤8:=by have:=hm.be;have:=hm.e8;omega
 have he8:m.e≤8:=hm.e8;have hbe:m.b<m.e:=hm.be;have h0:=hm.sh0;have h1:=hm.sh1
 have hsh:m.way+8*(m.b:Int)=m.sh:=by unfold B.Mv.sh;rw[hi];rfl
 have hwb:m.way=m.sh-8*(m.b:Int):=by omega
 have HCD:Hid (m.code=([⟨9,m.t,m.b,(m.e:Int)-(m.b:Int),0⟩,⟨8,m.t,0,0,m.bits⟩]++[])++[⟨4,m.v,m.t,0,0⟩]):=by
  refine hd' ?_;unfold B.Mv.code;rw[if_neg (by rw[hi];decide)];unfold B.Mv.mid;rw[if_neg (by omega),if_neg (by omega)];rfl
 obtain⟨w0,hw0⟩:∃w0,w.alloc (.cells (mvF m) 60)=w0:=⟨_,rfl⟩
 have hz0:w0.heap.size=w.heap.size+1:=by rw[←hw0];simp
 have HM0:Hid (MvIn w0 w.heap.size m):=by rw[←hw0];exact hd' (MvIn.new m w)
 have HB0:Hid (Below w.heap.size w w0):=by rw[←hw0];exact hd' ((Below.refl _ _).alloc (lR' _) _)
 obtain⟨w1,hw1⟩:∃w1,(w0.alloc (.cells #[.int .i64 2,.int .i64 m.t,.int .i64 m.v,.int .i64 0,.int .u64 0] 25)).alloc (.cells #[.int .i64 9,.int .i64 m.t,.int .i64 m.b,.int .i64 ((m.e:Int)-(m.b:Int)),.int .u64 0,.int .i64 8,.int .i64 m.t,.int .i64 0,.int .i64 0,.int .u64 m.bits] 25)=w1:=⟨_,rfl⟩
 have HB01:Hid (Below w0.heap.size w0 w1):=by rw[←hw1];exact hd' (((Below.refl w0.heap.size w0).alloc (lR' _) _).alloc (by simp) _)
 have HM1:Hid (MvIn w1 w.heap.size m):=hd' (CellsAt.below HM0.out HB01.out (by omega));have HB1:Hid (Below w.heap.size w w1):=hd' (HB0.out.trans (HB01.out.mono (by omega)))
 have HO1:Hid (OwnP w1 (w.heap.size+1) (some ⟨w.heap.size+1+1,0,none⟩) 2 2 [⟨9,m.t,m.b,(m.e:Int)-(m.b:Int),0⟩,⟨8,m.t,0,0,m.bits⟩]):=by rw[←hw1];exact hd' (fown_two ⟨9,m.t,m.b,(m.e:Int)-(m.b:Int),0⟩ ⟨8,m.t,0,0,m.bits⟩ _ _ _ (by simp;omega) (by simp;omega))
 have hz1:w.heap.size+1≤w1.heap.size:=by have:=HB01.out.size;omega
 have c0:w0.cell? ⟨w.heap.size,0,none⟩=some (.bool false):=by have:=CellsAt.cell HM0.out (j:=0) (by omega);rw[this];show some (Value.bool m.inn)=_;rw[hi]
 have c1:w0.cell? ⟨w.heap.size,1,none⟩=some (.int .i64 m.t):=CellsAt.cell HM0.out (j:=1) (by omega);have c2:w0.cell? ⟨w.heap.size,2,none⟩=some (.int .i64 m.v):=CellsAt.cell HM0.out (j:=2) (by omega);have c3:w0.cell? ⟨w.heap.size,3,none⟩=some (.int .i64 m.way):=CellsAt.cell HM0.out (j:=3) (by omega);have c4:w0.cell? ⟨w.heap.size,4,none⟩=some (.int .i64 m.b):=CellsAt.cell HM0.out (j:=4) (by omega);have c5:w0.cell? ⟨w.heap.size,5,none⟩=some (.int .i64 m.e):=CellsAt.cell HM0.out (j:=5) (by omega);have c6:w0.cell? ⟨w.heap.size,6,none⟩=some (.int .u64 m.bits):=CellsAt.cell HM0.out (j:=6) (by omega);have k1:IntKind.i64.wrap (8*(m.b:Int))=8*(m.b:Int):=IntWalk.i64_in _ (by omega);have k2':IntKind.i64.wrap (m.way-8*(m.b:Int))=m.way-8*(m.b:Int):=IntWalk.i64_in _ (by omega)
 have k2:IntKind.i64.wrap (m.way+8*(m.b:Int))=m.sh:=by rw[hsh];exact IntWalk.i64_in _ (by omega)
 have k3:IntKind.i64.wrap ((m.e:Int)-(m.b:Int))=(m.e:Int)-(m.b:Int):=IntWalk.i64_in _ (by omega);have k4:IntKind.i64.wrap (-m.sh)= -m.sh:=IntWalk.i64_in _ (by omega);clear hm hb8 he8 hbe h0 h1 hsh hwb;have HI:=hd' hi;clear hi;rw[hs]at k2;clear hs k4;rw[HCD.out];clear HCD
 have d0:w1.cell? ⟨w.heap.size,0,none⟩=some (.bool false):=by have:=CellsAt.cell HM1.out (j:=0) (by omega);rw[this];show some (Value.bool m.inn)=_;rw[HI.out]
 have d1:w1.cell? ⟨w.heap.size,1,none⟩=some (.int .i64 m.t):=CellsAt.cell HM1.out (j:=1) (by omega);have d2:w1.cell? ⟨w.heap.size,2,none⟩=some (.int .i64 m.v):=CellsAt.cell HM1.out (j:=2) (by omega);have d3:w1.cell? ⟨w.heap.size,3,none⟩=some (.int .i64 m.way):=CellsAt.cell HM1.out (j:=3) (by omega);have d4:w1.cell? ⟨w.heap.size,4,none⟩=some (.int .i64 m.b):=CellsAt.cell HM1.out (j:=4) (by omega);have d5:w1.cell? ⟨w.heap.size,5,none⟩=some (.int .i64 m.e):=CellsAt.cell HM1.out (j:=5) (by omega);have d6:w1.cell? ⟨w.heap.size,6,none⟩=some (.int .u64 m.bits):=CellsAt.cell HM1.out (j:=6) (by omega);go_enter Tryz.func31,Tryz.ntmps31
 go_upto_region 1 with fail
 clear hw0
 go_upto_region 10 with fail
 clear hw1 c0 c1 c2 c3 c4 c5 c6;go_wp2_with (at_builtin;refine app_ins rfl _ _ rfl (w.heap.size+1) rfl HO1.out rfl (by omega) hz1 ?_;intro ao3 cp3 w3 hown3 hb3 hsz3);go_ret;exact CodeOut.mk (by simpa using hown3) (HB1.out.trans (hb3.mono (by omega)))
theorem code_any(m:B.Mv)(hm:m.Ok)(w:World):Calls Tryz.prog 31 #[.agg (mvF m)] w (CodeOut m.code w):=by
 cases hi:m.inn with
 | true=>
  by_cases h1:0<m.sh
  ·exact code_in_up m hm hi h1 w
  ·by_cases h2:m.sh<0
   ·exact code_in_down m hm hi h2 w
   ·exact code_in_same m hm hi (by omega) w
 | false=>
  by_cases h1:0<m.sh
  ·exact code_out_up m hm hi h1 w
  ·by_cases h2:m.sh<0
   ·exact code_out_down m hm hi h2 w
   ·exact code_out_same m hm hi (by omega) w
end Code
end Go.Proofs.YtpibampaobncaaaGreatDoor
namespace Go.Proofs.YtpibampaobncaaaGreatDoor
open Go.RowKit
theorem OwnP.capLe2{w:World}{base:Nat}{ao:Option Addr}{n cap:Nat}{qs:List B.Ins}(h:OwnP w base ao n cap qs):n≤cap:=by
 rcases h.own.2 with⟨h0,h1⟩ | ⟨g,c,cur,e,_,_,hnc,_⟩
 ·injection h0 with _ h2 h3;omega
 ·injection e with _ _ h3;omega
namespace Code
theorem OwnP.nilCap{w:World}{base:Nat}{ao:Option Addr}{n cap:Nat}{qs:List B.Ins}(h:OwnP w base ao n cap qs):ao=none→cap=0:=by
 rintro rfl;rcases h.own.2 with⟨h0,_⟩ | ⟨g,c,cur,h0,_⟩
 ·injection h0
 ·injection h0 with h0 _ _;cases h0
end Code
end Go.Proofs.YtpibampaobncaaaGreatDoor
namespace Go.Proofs.YtpibampaobncaaaGreatDoor
open Go.RowKit
namespace Code
attribute [local go_sem ↓] Go.wp_at_zero Go.wp_at_succ
set_option maxRecDepth 100000 in
set_option maxHeartbeats 3200000 in
theorem inside_any(X bb n cp a b:Nat)(f:Nat→Bool)(w:World)(hx:w.cell? ⟨X,0,none⟩=some (.slice (some ⟨bb,0,none⟩) n cp))(hf:BoolsIn w bb n f)(hb:b≤n)(hn:n≤1000000):
    Calls Tryz.prog 51 #[.int .i64 a,.int .i64 b,.pointer (some ⟨X,0,none⟩)] w fun e w'=>e= .returned (.bool (B.someIn f a b))∧w'=w:=by
 have HF:=hd' hf;clear hf;go_enter Tryz.func51,Tryz.ntmps51;go_wp2_with fail
 go_loop [6] (fun i=>∃k:Nat,i= .int .i64 k∧B.someIn f a b=B.someIn f k b) (fun i=>b-(intOf i).toNat)
 case atStart=>exact⟨a,rfl,rfl⟩
 case round=>
  obtain⟨k,rfl,hs⟩:=hrel;have HS:=hd' hs;clear hs
  by_cases hlt:k<b
  ·have c0:=CellsAt.cell HF.out (j:=k) (by omega)
   have k0:(0:Int)≤(k:Int):=by omega
   have k1:(k:Int)<(n:Int):=by omega
   have HC:=hd' (B.someIn_cons f hlt)
   cases hv:f k with
   | true=>
    rw[hv]at c0;have HV:=hd' hv;clear hv;go_wp2_with fail;go_ret;exact⟨ret_bool (by rw[HS.out,HC.out,HV.out];rfl),rfl⟩
   | false=>
    rw[hv]at c0;have HV:=hd' hv;clear hv;go_wp2_with fail
    go_round
    case rel=>exact⟨k+1,by go_num,by rw[HS.out,HC.out,HV.out];rfl⟩
    case measure=>simp[intOf];omega
  ·go_wp2_with fail
   go_ret;exact⟨ret_bool (by rw[HS.out,B.someIn_none f (by omega)]),rfl⟩
theorem ret_mvn{fn:Func}{p u:Nat}(hr:fn.results= #[.cell p 60,.tmp u]){tmps:Array Value}{wz:World}{R:Nat}{m:B.Mv}{v:Value}(hp:tmps.getD p undef= .pointer (some ⟨R,0,none⟩))(hu:tmps.getD u undef=v)(hm:MvIn wz R m):
    (results fn tmps).run Tryz.prog wz= .ok (.tuple #[.agg (mvF m),v]) wz:=by
 rw[results_cell_tmp hr,hp,hu];have hload:=run_loadVar_mid (P:=Tryz.prog) wz R 0 60 (mvF m).toList _ (MvIn.range hm) Tryz.underlying60 rfl (by rw[info60];rfl);simp only[asAddr,Sem.run_pure,Result.andThen];rw[hload]
def RowOut(ps:List B.Ins)(i:Nat)(w:World)(e:Ending)(w':World):Prop:=∃m n l c,B.Told ps i m n l c∧e= .returned (.tuple #[.agg (mvF m),.int .i64 (n:Nat)])∧Below w.heap.size w w'
def mv1:B.Mv:=⟨false,0,0,0,0,0,0,1⟩
theorem Below.stored'{w w':World}{N b:Nat}(h:Below N w w')(_:N≤w'.heap.size)(hb:N≤b)(vs:List Value):Below N w (w'.setCells b 0 vs):=
 h.grown (grownBy_setCells b vs 0 w') (by assumption) (fun k hk=>by have:=Option.some.inj hk;omega)
structure RowW(m all:B.Mv)(M A bb n cp:Nat)(w wy:World):Prop where
 bel:Below w.heap.size w wy
 box:wy.heap[w.heap.size]? =some (.cells #[.slice (some ⟨bb,0,none⟩) n cp] 47 (0,0))
 res:MvIn wy (w.heap.size+1) mv0
 mv:MvIn wy M m
 al:MvIn wy A all
 lM:w.heap.size+1<M
 lA:M<A
 ltA:A<wy.heap.size
theorem RowW.below{m all:B.Mv}{M A bb n cp:Nat}{w wy wz:World}(h:RowW m all M A bb n cp w wy)(hb:Below wy.heap.size wy wz):RowW m all M A bb n cp w wz:=by
 have h1:=h.lM;have h2:=h.lA;have h3:=h.ltA;exact⟨h.bel.trans (hb.mono h.bel.size),(hb.block _ (by omega)).trans h.box,CellsAt.below h.res hb (by omega),CellsAt.below h.mv hb (by omega),CellsAt.below h.al hb (by omega),h1,h2,Nat.lt_of_lt_of_le h3 hb.size⟩
theorem RowW.set{m all:B.Mv}{M A bb n cp:Nat}{w wy:World}(h:RowW m all M A bb n cp w wy)(all':B.Mv):RowW m all' M A bb n cp w (wy.setCells A 0 (mvF all').toList):=by
 have h1:=h.lM;have h2:=h.lA;have h3:=h.ltA;have hg:=grownBy_setCells A (mvF all').toList 0 wy;exact⟨Below.stored' h.bel h.bel.size (by omega) _,(hg.block _ (by omega) (by simp;omega)).trans h.box,CellsAt.grown h.res hg (by omega),CellsAt.grown h.mv hg (by omega),MvIn.store h.al all',h1,h2,Nat.lt_of_lt_of_le h3 hg.size⟩
theorem RowW.size{m all:B.Mv}{M A bb n cp:Nat}{w wy:World}(h:RowW m all M A bb n cp w wy)(k:Nat):RowW m { all with size:=k} M A bb n cp w (wy.setCell ⟨A,7,none⟩ (.int .i64 (k:Int))):=by
 have h1:=h.lM;have h2:=h.lA;have h3:=h.ltA;refine⟨h.bel.setCell (by simp;omega) _,(blk_other _ (by simp;omega)).trans h.box,CellsAt.other h.res _ _ (by simp;omega),CellsAt.other h.mv _ _ (by simp;omega), ?_,h1,h2,by simpa using h3⟩;refine CellsAt.congr (CellsAt.set h.al 7 (.int .i64 (k:Int))) (fun j hj=> ?_)
 have:j=0∨j=1∨j=2∨j=3∨j=4∨j=5∨j=6∨j=7:=by omega
 rcases this with rfl | rfl | rfl | rfl | rfl | rfl | rfl | rfl<;>rfl
set_option maxRecDepth 100000 in
set_option maxHeartbeats 6400000 in
theorem row_none(a:Option Addr)(len cap i bb n cp rb rn rc:Nat)(ps:List B.Ins)(w:World)(hp:ProgAt w a len ps)(hc:len≤cap)(hw:∀x∈ps,x.right=true)(hl:len≤16384)(hi:i<len)
    (_hb:BoolsIn w bb n (B.entd ps)) (hm:B.readMv (ps.drop i)=none):
    Calls Tryz.prog 30 #[.slice a len cap,.int .i64 i,.slice (some ⟨bb,0,none⟩) n cp,.slice (some ⟨rb,0,none⟩) rn rc] w (RowOut ps i w):=by
 obtain⟨x,hx⟩:∃x,ps[i]? =some x:=⟨ps[i]'(by have:=hp.len;omega),List.getElem?_eq_getElem _⟩;have HT:=hd' (B.Told.none (p:=ps) (i:=i) mv1 rfl hx hm);obtain⟨w1,hw1⟩:∃w1,(w.alloc (.cells #[.slice (some ⟨bb,0,none⟩) n cp] 47)).alloc (.cells (mvF mv0) 60)=w1:=⟨_,rfl⟩
 have HB1:Hid (Below w.heap.size w w1):=by rw[←hw1];exact hd' (((Below.refl _ _).alloc (lR' _) _).alloc (by simp) _)
 have HM1:Hid (MvIn w1 (w.heap.size+1) mv0):=by
  rw[←hw1];have:=MvIn.new mv0 (w.alloc (.cells #[.slice (some ⟨bb,0,none⟩) n cp] 47));rw[show(w.alloc (.cells #[.slice (some ⟨bb,0,none⟩) n cp] 47)).heap.size=w.heap.size+1 by simp]at this;exact hd' this
 have HC:=hd' (readAt_any a len cap i ps w1 (hp.below HB1.out (lR' _)) hc hw (by omega) (by omega));unfold FReadOut at HC;rw[hm]at HC;clear hp hw hm hx;go_enter Tryz.func30,Tryz.ntmps30
 go_upto_region 1 with fail
 have hw1':(w.alloc (.cells #[.slice (some ⟨bb,0,none⟩) n cp] 47)).alloc (.cells #[.bool false,.int .i64 0,.int .i64 0,.int .i64 0,.int .i64 0,.int .i64 0,.int .u64 0,.int .i64 0] 60)=w1:=hw1;rw[hw1'];clear hw1 hw1';go_wp2_with fail;refine HC.out.mono ?_;rintro e w2 ⟨rfl,hb2⟩;have hz:=CellsAt.blk HM1.out;have HM2:Hid (MvIn (w2.alloc (.cells (mvF mv0) 60)) (w.heap.size+1) mv0):=hd' (CellsAt.alloc (CellsAt.below HM1.out hb2 hz) _);have HB2:Hid (Below w.heap.size w (w2.alloc (.cells (mvF mv0) 60))):=hd' ((HB1.out.trans (hb2.mono HB1.out.size)).alloc (by have:=HB1.out.size;have:=hb2.size;omega) _);have HTH:=hd' (CellsAt.there HM2.out (o:=0) (m:=8) (by omega));have HMN:=hd' (MvIn.store HM2.out mv1)
 have HSN:Hid (Below w.heap.size w ((w2.alloc (.cells (mvF mv0) 60)).setCells (w.heap.size+1) 0 (mvF mv1).toList)):=
  hd' (HB2.out.grown (grownBy_setCells _ _ _ _) HB2.out.size (fun k hk=>by simp at hk;omega))
 clear hb2 hz HC;simp only[mvOut,mvF,mv0];go_wp2_with (refine wpList_store_mid (by rfl) 60 _ _ (by rfl) (w.heap.size+1) 0 (mvF mv1) (by rfl) (by rfl) HTH.out (by rw[info60];rfl) (mvF_ones _) ?_);refine bodyPost_ret (v:=.tuple #[.agg (mvF mv1),.int .i64 ((1:Nat):Int)]) ?_ rfl ?_
 ·exact ret_mvn (p:=8) (u:=9) (by kernel_rfl) (by rfl) (by rfl) HMN.out
 ·exact⟨mv1,1,_,_,HT.out,rfl,HSN.out⟩
set_option maxRecDepth 100000 in
set_option maxHeartbeats 25600000 in
theorem row_some(a:Option Addr)(len cap i bb cp rb rc:Nat)(ps:List B.Ins)(m:B.Mv)(w:World)(hp:ProgAt w a len ps)(hc:len≤cap)(hw:∀x∈ps,x.right=true)(hl:len≤16384)(hi:i<len)
    (hb:BoolsIn w bb (len+1) (B.entd ps)) (hr:CellsAt w rb 82 ((len+1)*16) (fun j=>.bool (B.ndL ps (j/16) (j%16)))) (hm:B.readMv (ps.drop i)=some m):
    Calls Tryz.prog 30 #[.slice a len cap,.int .i64 i,.slice (some ⟨bb,0,none⟩) (len+1) cp,.slice (some ⟨rb,0,none⟩) (len+1) rc] w (RowOut ps i w):=by
 have HP:=hd' hp;have HW:=hd' hw;have HBB:=hd' hb;have HRR:=hd' hr;have HM:=hd' hm;have hfit:=B.readMv_fits hm;have HOK:=hd' (B.read_ok hw hm)
 have hms:i+m.size≤len:=by have:=hp.len;have:=hfit.1;omega
 have hms2:2≤m.size:=hfit.2;have hbblt:=CellsAt.blk hb;have hrblt:=CellsAt.blk hr;obtain⟨w1,hw1⟩:∃w1,(w.alloc (.cells #[.slice (some ⟨bb,0,none⟩) (len+1) cp] 47)).alloc (.cells (mvF mv0) 60)=w1:=⟨_,rfl⟩
 have HB1:Hid (Below w.heap.size w w1):=by rw[←hw1];exact hd' (((Below.refl _ _).alloc (lR' _) _).alloc (by simp) _)
 have HX1:Hid (w1.heap[w.heap.size]? =some (.cells #[.slice (some ⟨bb,0,none⟩) (len+1) cp] 47 (0,0))):=by
  rw[←hw1];exact hd' ((heap_alloc_old _ _ (by simp)).trans (heap_alloc_new w _))
 have HM1:Hid (MvIn w1 (w.heap.size+1) mv0):=by
  rw[←hw1];have:=MvIn.new mv0 (w.alloc (.cells #[.slice (some ⟨bb,0,none⟩) (len+1) cp] 47));rw[show(w.alloc (.cells #[.slice (some ⟨bb,0,none⟩) (len+1) cp] 47)).heap.size=w.heap.size+1 by simp]at this;exact hd' this
 have HC:=hd' (readAt_any a len cap i ps w1 (hp.below HB1.out (lR' _)) hc hw (by omega) (by omega));unfold FReadOut at HC;rw[hm]at HC;have s1:IntKind.i64.wrap ((i:Int)+1)=(i:Int)+1:=IntWalk.i64_in _ (by omega);have s2:IntKind.i64.wrap ((i:Int)+(m.size:Int))=(i:Int)+(m.size:Int):=IntWalk.i64_in _ (by omega);clear hp hw hb hr hm hfit;go_enter Tryz.func30,Tryz.ntmps30
 go_upto_region 1 with fail
 have hw1':(w.alloc (.cells #[.slice (some ⟨bb,0,none⟩) (len+1) cp] 47)).alloc (.cells #[.bool false,.int .i64 0,.int .i64 0,.int .i64 0,.int .i64 0,.int .i64 0,.int .u64 0,.int .i64 0] 60)=w1:=hw1
 try rw[hw1']
 clear hw1 hw1';go_wp2_with fail;refine HC.out.mono ?_;rintro e w2 ⟨rfl,hb2⟩;clear HC;have hz1:=HB1.out.size;have hz2:=hb2.size;have hr1:=CellsAt.blk HM1.out;simp only[mvOut,mvF];obtain⟨w3,hw3⟩:∃w3,w2.alloc (.cells #[.bool m.inn,.int .i64 m.t,.int .i64 m.v,.int .i64 m.way,.int .i64 m.b,.int .i64 m.e,.int .u64 m.bits,.int .i64 m.size] 60)=w3:=⟨_,rfl⟩;obtain⟨M,hMe⟩:∃M,w2.heap.size=M:=⟨_,rfl⟩
 have HM3:Hid (MvIn w3 M m):=by rw[←hw3,←hMe];exact hd' (MvIn.new m w2)
 have HR3:Hid (MvIn w3 (w.heap.size+1) mv0):=by rw[←hw3];exact hd' (CellsAt.alloc (CellsAt.below HM1.out hb2 hr1) _)
 have HX3:Hid (w3.heap[w.heap.size]? =some (.cells #[.slice (some ⟨bb,0,none⟩) (len+1) cp] 47 (0,0))):=by
  rw[←hw3];have h1:=(hb2.block w.heap.size (by omega)).trans HX1.out;exact hd' ((heap_alloc_old _ _ (lt_of_block h1)).trans h1)
 have HB3:Hid (Below w.heap.size w w3):=by rw[←hw3];exact hd' ((HB1.out.trans (hb2.mono hz1)).alloc (by omega) _)
 have hM1:w.heap.size+1<M:=by omega
 have hz3:M<w3.heap.size:=by rw[←hw3,←hMe];simp
 clear hb2 HM1 HX1 HB1 hz1 hz2 hr1
 go_upto_region 4 with fail
 clear hw3 hMe;have c7:w3.cell? ⟨M,7,none⟩=some (.int .i64 m.size):=CellsAt.cell HM3.out (j:=7) (by omega);have HRG3:Hid (w3.rangeAt M 0 [.bool m.inn,.int .i64 m.t,.int .i64 m.v,.int .i64 m.way,.int .i64 m.b,.int .i64 m.e,.int .u64 m.bits,.int .i64 m.size]):=hd' (MvIn.range HM3.out);obtain⟨w4,hw4⟩:∃w4,w3.alloc (.cells #[.bool m.inn,.int .i64 m.t,.int .i64 m.v,.int .i64 m.way,.int .i64 m.b,.int .i64 m.e,.int .u64 m.bits,.int .i64 m.size] 60)=w4:=⟨_,rfl⟩;obtain⟨A,hAe⟩:∃A,w3.heap.size=A:=⟨_,rfl⟩
 have HW4:Hid (RowW m m M A bb (len+1) cp w w4):=by
  have hb34:Below w3.heap.size w3 w4:=by rw[←hw4];exact(Below.refl _ _).alloc (lR' _) _
  refine hd' ⟨HB3.out.trans (hb34.mono (by omega)),(hb34.block _ (by omega)).trans HX3.out,CellsAt.below HR3.out hb34 (by omega),CellsAt.below HM3.out hb34 hz3, ?_,hM1,by omega,by rw[←hw4,←hAe];simp⟩;rw[←hw4,←hAe];exact MvIn.new m w3
 clear HM3 HX3 HR3 HB3 hz3
 go_upto_region 7 with(refine wpList_load_mid (by rfl) 60 _ (by rfl) M 0 (by rfl) [.bool m.inn,.int .i64 m.t,.int .i64 m.v,.int .i64 m.way,.int .i64 m.b,.int .i64 m.e,.int .u64 m.bits,.int .i64 m.size] _ HRG3.out Tryz.underlying60 (by rfl) (by rw[info60];rfl) ?_)
 clear hw4 hAe c7 HRG3;have hx4:w4.cell? ⟨w.heap.size,0,none⟩=some (.slice (some ⟨bb,0,none⟩) (len+1) cp):=(cell_of_row _ _ _ _ _ _ HW4.out.box).trans rfl;have HIN:=hd' (inside_any w.heap.size bb (len+1) cp (i+1) (i+m.size) (B.entd ps) w4 hx4 (CellsAt.below HBB.out HW4.out.bel hbblt) (by omega) (by omega));rw[show((i+1:Nat):Int)=(i:Int)+1 by omega,show((i+m.size:Nat):Int)=(i:Int)+(m.size:Int) by omega]at HIN;clear hx4
 cases hin:B.someIn (B.entd ps) (i+1) (i+m.size)with
 | true=>
  rw[hin]at HIN;have HT:=hd' (B.Told.inside HM.out hin);have HRG4:Hid (w4.rangeAt M 0 [.bool m.inn,.int .i64 m.t,.int .i64 m.v,.int .i64 m.way,.int .i64 m.b,.int .i64 m.e,.int .u64 m.bits,.int .i64 m.size]):=hd' (MvIn.range HW4.out.mv);have HTH:=hd' (CellsAt.there HW4.out.res (o:=0) (m:=8) (by omega));have HMN:=hd' (MvIn.store HW4.out.res m);have HSN:Hid (Below w.heap.size w (w4.setCells (w.heap.size+1) 0 (mvF m).toList)):=hd' (Below.stored' HW4.out.bel HW4.out.bel.size (by omega) _);clear hin;go_wp2_with fail;refine HIN.out.mono ?_;rintro e w5 ⟨rfl,rfl⟩;clear HIN
  go_wp2_with (first
   | refine wpList_load_mid (by rfl) 60 _ (by rfl) M 0 (by rfl) (mvF m).toList _ HRG4.out Tryz.underlying60 (by rfl) (by rw[info60];rfl) ?_
   | refine wpList_store_mid (by rfl) 60 _ _ (by rfl) (w.heap.size+1) 0 (mvF m) (by rfl) (by rfl) HTH.out (by rw[info60];rfl) (mvF_ones _) ?_)
  refine bodyPost_ret (v:=.tuple #[.agg (mvF m),.int .i64 (m.size:Nat)]) ?_ rfl ?_
  ·exact ret_mvn (p:=8) (u:=9) (by kernel_rfl) (by rfl) (by rfl) HMN.out
  ·exact⟨m,m.size,_,_,HT.out,rfl,HSN.out⟩
 | false=>
  rw[hin]at HIN;have HINF:=hd' hin;clear hin;go_wp2_with fail;refine HIN.out.mono ?_;rintro e w5 ⟨rfl,rfl⟩;clear HIN;go_wp2_with fail
  go_loopg [12] (len-(i+m.size)) (fun g v wr=>∃(nn:Nat) (all:B.Mv),g+(i+nn)=len∧v= .int .i64 (nn:Nat)∧B.RowAt ps i m (i+nn) all∧RowW m all M A bb (len+1) cp w wr)
  case atStart=>exact⟨m.size,m,by omega,rfl,B.RowAt.start HW.out HM.out,HW4.out⟩
  case round=>
   obtain⟨nn,all,hg,rfl,hat,hrw⟩:=hrel;have HAT:=hd' hat;have HRW:=hd' hrw
   have hnl:i+nn≤len:=by omega
   have s3:IntKind.i64.wrap ((i:Int)+(nn:Int))=(i:Int)+(nn:Int):=IntWalk.i64_in _ (by omega);have HC:=hd' (readAt_any a len cap (i+nn) ps wr (HP.out.below hrw.bel (lR' _)) hc HW.out (by omega) (by omega));rw[show((i+nn:Nat):Int)=(i:Int)+(nn:Int) by omega]at HC;unfold FReadOut at HC;clear hat hrw HW4 s1 s2
   cases hmo:B.readMv (ps.drop (i+nn))with
   | none=>
    rw[hmo]at HC;simp only[mvOut,mvF,mv0]at HC;rw[show((0:Nat):Int)=0 from rfl]at HC;obtain⟨lo,co,htold⟩:=HAT.out.told HM.out HINF.out (B.nextMv_none hmo);have HT:=hd' htold;clear hmo htold hg;go_wp2_with fail;refine HC.out.mono ?_;rintro e w5 ⟨rfl,hb5⟩;have HRW5:=hd' (HRW.out.below hb5);clear HC hb5 HRW
    go_upto_region 10 with fail
    obtain⟨w6,hw6⟩:∃w6,w5.alloc (.cells #[.bool false,.int .i64 0,.int .i64 0,.int .i64 0,.int .i64 0,.int .i64 0,.int .u64 0,.int .i64 0] 60)=w6:=⟨_,rfl⟩;obtain⟨O,hO⟩:∃O,w5.heap.size=O:=⟨_,rfl⟩
    have HRW6:Hid (RowW m all M A bb (len+1) cp w w6):=by rw[←hw6];exact hd' (HRW5.out.below ((Below.refl _ _).alloc (lR' _) _))
    have o7:w6.cell? ⟨O,7,none⟩=some (.int .i64 0):=by rw[←hw6,←hO];exact(cell_of_row _ _ _ _ _ _ (heap_alloc_new w5 _)).trans rfl
    rw[hw6,hO];clear hw6 hO HRW5
    go_upto_region 11 with fail
    clear o7
    go_quiet (fail)
    obtain⟨w7,hw7⟩:∃w7,w6.drewN nq=w7:=⟨_,rfl⟩
    have HRW7:Hid (RowW m all M A bb (len+1) cp w w7):=by rw[←hw7];exact hd' (HRW6.out.below (belowN (Below.refl _ _) _))
    rw[hw7];clear hw7 HRW6;have e7:w7.cell? ⟨M,7,none⟩=some (.int .i64 m.size):=CellsAt.cell HRW7.out.mv (j:=7) (by omega);have a7:w7.cell? ⟨A,7,none⟩=some (.int .i64 all.size):=CellsAt.cell HRW7.out.al (j:=7) (by omega);have b7:=CellsAt.free HRW7.out.al 7
    go_upto_region 13 with fail
    obtain⟨w8,hw8⟩:∃w8,w7.setCell ⟨A,7,none⟩ (.int .i64 (m.size:Int))=w8:=⟨_,rfl⟩;obtain⟨al,hal⟩:∃al:B.Mv, { all with size:=m.size}=al:=⟨_,rfl⟩
    have HRW8:Hid (RowW m al M A bb (len+1) cp w w8):=by rw[←hw8,←hal];exact hd' (HRW7.out.size m.size)
    rw[hw8];rw[hal,show i+nn-i=nn by omega]at HT;clear hw8 hal HRW7 e7 a7 b7;have HRG8:Hid (w8.rangeAt A 0 (mvF al).toList):=hd' (MvIn.range HRW8.out.al);have HTH:=hd' (CellsAt.there HRW8.out.res (o:=0) (m:=8) (by omega));have HMN:=hd' (MvIn.store HRW8.out.res al);have HSN:Hid (Below w.heap.size w (w8.setCells (w.heap.size+1) 0 (mvF al).toList)):=hd' (Below.stored' HRW8.out.bel HRW8.out.bel.size (by omega) _)
    go_wp2_with (first
     | refine wpList_load_mid (by rfl) 60 _ (by rfl) A 0 (by rfl) (mvF al).toList _ HRG8.out Tryz.underlying60 (by rfl) (by rw[info60];rfl) ?_
     | refine wpList_store_mid (by rfl) 60 _ _ (by rfl) (w.heap.size+1) 0 (mvF al) (by rfl) (by rfl) HTH.out (by rw[info60];rfl) (mvF_ones _) ?_)
    refine bodyPost_ret (v:=.tuple #[.agg (mvF al),.int .i64 (nn:Nat)]) ?_ rfl ?_
    ·exact ret_mvn (p:=8) (u:=9) (by kernel_rfl) (by rfl) (by rfl) HMN.out
    ·exact⟨al,nn,_,_,HT.out,rfl,HSN.out⟩
   | some o=>
    rw[hmo]at HC;simp only[mvOut,mvF]at HC;have hof:=B.readMv_fits hmo
    have hos:i+nn+o.size≤len:=by have:=HP.out.len;have:=hof.1;omega
    have hos2:2≤o.size:=hof.2;have HMO:=hd' hmo;have s4:IntKind.i64.wrap ((i:Int)+(nn:Int)+(o.size:Int))=(i:Int)+(nn:Int)+(o.size:Int):=IntWalk.i64_in _ (by omega);clear hmo hof;go_wp2_with fail;refine HC.out.mono ?_;rintro e w5 ⟨rfl,hb5⟩;have HRW5:=hd' (HRW.out.below hb5);clear HC hb5 HRW;obtain⟨w6,hw6⟩:∃w6,w5.alloc (.cells #[.bool o.inn,.int .i64 o.t,.int .i64 o.v,.int .i64 o.way,.int .i64 o.b,.int .i64 o.e,.int .u64 o.bits,.int .i64 o.size] 60)=w6:=⟨_,rfl⟩;obtain⟨O,hO⟩:∃O,w5.heap.size=O:=⟨_,rfl⟩
    have HRW6:Hid (RowW m all M A bb (len+1) cp w w6):=by rw[←hw6];exact hd' (HRW5.out.below ((Below.refl _ _).alloc (lR' _) _))
    have HO6:Hid (MvIn w6 O o):=by rw[←hw6,←hO];exact hd' (MvIn.new o w5)
    have o7:w6.cell? ⟨O,7,none⟩=some (.int .i64 o.size):=CellsAt.cell HO6.out (j:=7) (by omega)
    have hOA:A<O:=by rw[←hO];exact HRW5.out.ltA
    go_upto_region 11 with fail
    clear hw6 hO o7 HRW5;have m0:w6.cell? ⟨M,0,none⟩=some (.bool m.inn):=CellsAt.cell HRW6.out.mv (j:=0) (by omega);have m1:w6.cell? ⟨M,1,none⟩=some (.int .i64 m.t):=CellsAt.cell HRW6.out.mv (j:=1) (by omega);have m2:w6.cell? ⟨M,2,none⟩=some (.int .i64 m.v):=CellsAt.cell HRW6.out.mv (j:=2) (by omega);have m3:w6.cell? ⟨M,3,none⟩=some (.int .i64 m.way):=CellsAt.cell HRW6.out.mv (j:=3) (by omega);have o0:w6.cell? ⟨O,0,none⟩=some (.bool o.inn):=CellsAt.cell HO6.out (j:=0) (by omega);have o1:w6.cell? ⟨O,1,none⟩=some (.int .i64 o.t):=CellsAt.cell HO6.out (j:=1) (by omega);have o2:w6.cell? ⟨O,2,none⟩=some (.int .i64 o.v):=CellsAt.cell HO6.out (j:=2) (by omega);have o3:w6.cell? ⟨O,3,none⟩=some (.int .i64 o.way):=CellsAt.cell HO6.out (j:=3) (by omega)
    cases hw:B.sameWay m o with
    | false=>
     obtain⟨lo,co,htold⟩:=HAT.out.told HM.out HINF.out (B.nextMv_not HMO.out (by rw[hw];simp));have HT:=hd' htold;clear htold hg
     have hne:¬(m.inn=o.inn∧m.t=o.t∧m.v=o.v∧m.way=o.way):=fun h=>by rw[B.sameWay_iff.2 h]at hw;cases hw
     clear hw
     by_cases p0:m.inn=o.inn
     ·rw[←p0]at o0
      by_cases p1:m.t=o.t
      ·rw[←p1]at o1
       by_cases p2:m.v=o.v
       ·rw[←p2]at o2
        have p3:(o.way==m.way)=false:=by rw[beq_eq_false_iff_ne];intro h;exact hne ⟨p0,p1,p2,h.symm⟩
        clear p0 p1 p2 hne
        go_quiet (fail)
        clear m0 m1 m2 m3 o0 o1 o2 o3 HO6;obtain⟨w7,hw7⟩:∃w7,w6.drewN nq=w7:=⟨_,rfl⟩
        have HRW7:Hid (RowW m all M A bb (len+1) cp w w7):=by rw[←hw7];exact hd' (HRW6.out.below (belowN (Below.refl _ _) _))
        rw[hw7];clear hw7 HRW6;have e7:w7.cell? ⟨M,7,none⟩=some (.int .i64 m.size):=CellsAt.cell HRW7.out.mv (j:=7) (by omega);have a7:w7.cell? ⟨A,7,none⟩=some (.int .i64 all.size):=CellsAt.cell HRW7.out.al (j:=7) (by omega);have b7:=CellsAt.free HRW7.out.al 7
        go_upto_region 13 with fail
        obtain⟨w8,hw8⟩:∃w8,w7.setCell ⟨A,7,none⟩ (.int .i64 (m.size:Int))=w8:=⟨_,rfl⟩;obtain⟨al,hal⟩:∃al:B.Mv, { all with size:=m.size}=al:=⟨_,rfl⟩
        have HRW8:Hid (RowW m al M A bb (len+1) cp w w8):=by rw[←hw8,←hal];exact hd' (HRW7.out.size m.size)
        rw[hw8];rw[hal,show i+nn-i=nn by omega]at HT;clear hw8 hal HRW7 e7 a7 b7;have HRG8:Hid (w8.rangeAt A 0 (mvF al).toList):=hd' (MvIn.range HRW8.out.al);have HTH:=hd' (CellsAt.there HRW8.out.res (o:=0) (m:=8) (by omega));have HMN:=hd' (MvIn.store HRW8.out.res al);have HSN:Hid (Below w.heap.size w (w8.setCells (w.heap.size+1) 0 (mvF al).toList)):=hd' (Below.stored' HRW8.out.bel HRW8.out.bel.size (by omega) _)
        go_wp2_with (first
         | refine wpList_load_mid (by rfl) 60 _ (by rfl) A 0 (by rfl) (mvF al).toList _ HRG8.out Tryz.underlying60 (by rfl) (by rw[info60];rfl) ?_
         | refine wpList_store_mid (by rfl) 60 _ _ (by rfl) (w.heap.size+1) 0 (mvF al) (by rfl) (by rfl) HTH.out (by rw[info60];rfl) (mvF_ones _) ?_)
        refine bodyPost_ret (v:=.tuple #[.agg (mvF al),.int .i64 (nn:Nat)]) ?_ rfl ?_
        ·exact ret_mvn (p:=8) (u:=9) (by kernel_rfl) (by rfl) (by rfl) HMN.out
        ·exact⟨al,nn,_,_,HT.out,rfl,HSN.out⟩
       ·have p3:(o.v==m.v)=false:=by rw[beq_eq_false_iff_ne];intro h;exact p2 h.symm
        clear p0 p1 p2 hne
        go_quiet (fail)
        clear m0 m1 m2 m3 o0 o1 o2 o3 HO6;obtain⟨w7,hw7⟩:∃w7,w6.drewN nq=w7:=⟨_,rfl⟩
        have HRW7:Hid (RowW m all M A bb (len+1) cp w w7):=by rw[←hw7];exact hd' (HRW6.out.below (belowN (Below.refl _ _) _))
        rw[hw7];clear hw7 HRW6;have e7:w7.cell? ⟨M,7,none⟩=some (.int .i64 m.size):=CellsAt.cell HRW7.out.mv (j:=7) (by omega);have a7:w7.cell? ⟨A,7,none⟩=some (.int .i64 all.size):=CellsAt.cell HRW7.out.al (j:=7) (by omega);have b7:=CellsAt.free HRW7.out.al 7
        go_upto_region 13 with fail
        obtain⟨w8,hw8⟩:∃w8,w7.setCell ⟨A,7,none⟩ (.int .i64 (m.size:Int))=w8:=⟨_,rfl⟩;obtain⟨al,hal⟩:∃al:B.Mv, { all with size:=m.size}=al:=⟨_,rfl⟩
        have HRW8:Hid (RowW m al M A bb (len+1) cp w w8):=by rw[←hw8,←hal];exact hd' (HRW7.out.size m.size)
        rw[hw8];rw[hal,show i+nn-i=nn by omega]at HT;clear hw8 hal HRW7 e7 a7 b7;have HRG8:Hid (w8.rangeAt A 0 (mvF al).toList):=hd' (MvIn.range HRW8.out.al);have HTH:=hd' (CellsAt.there HRW8.out.res (o:=0) (m:=8) (by omega));have HMN:=hd' (MvIn.store HRW8.out.res al);have HSN:Hid (Below w.heap.size w (w8.setCells (w.heap.size+1) 0 (mvF al).toList)):=hd' (Below.stored' HRW8.out.bel HRW8.out.bel.size (by omega) _)
        go_wp2_with (first
         | refine wpList_load_mid (by rfl) 60 _ (by rfl) A 0 (by rfl) (mvF al).toList _ HRG8.out Tryz.underlying60 (by rfl) (by rw[info60];rfl) ?_
         | refine wpList_store_mid (by rfl) 60 _ _ (by rfl) (w.heap.size+1) 0 (mvF al) (by rfl) (by rfl) HTH.out (by rw[info60];rfl) (mvF_ones _) ?_)
        refine bodyPost_ret (v:=.tuple #[.agg (mvF al),.int .i64 (nn:Nat)]) ?_ rfl ?_
        ·exact ret_mvn (p:=8) (u:=9) (by kernel_rfl) (by rfl) (by rfl) HMN.out
        ·exact⟨al,nn,_,_,HT.out,rfl,HSN.out⟩
      ·have p3:(o.t==m.t)=false:=by rw[beq_eq_false_iff_ne];intro h;exact p1 h.symm
       clear p0 p1 hne
       go_quiet (fail)
       clear m0 m1 m2 m3 o0 o1 o2 o3 HO6;obtain⟨w7,hw7⟩:∃w7,w6.drewN nq=w7:=⟨_,rfl⟩
       have HRW7:Hid (RowW m all M A bb (len+1) cp w w7):=by rw[←hw7];exact hd' (HRW6.out.below (belowN (Below.refl _ _) _))
       rw[hw7];clear hw7 HRW6;have e7:w7.cell? ⟨M,7,none⟩=some (.int .i64 m.size):=CellsAt.cell HRW7.out.mv (j:=7) (by omega);have a7:w7.cell? ⟨A,7,none⟩=some (.int .i64 all.size):=CellsAt.cell HRW7.out.al (j:=7) (by omega);have b7:=CellsAt.free HRW7.out.al 7
       go_upto_region 13 with fail
       obtain⟨w8,hw8⟩:∃w8,w7.setCell ⟨A,7,none⟩ (.int .i64 (m.size:Int))=w8:=⟨_,rfl⟩;obtain⟨al,hal⟩:∃al:B.Mv, { all with size:=m.size}=al:=⟨_,rfl⟩
       have HRW8:Hid (RowW m al M A bb (len+1) cp w w8):=by rw[←hw8,←hal];exact hd' (HRW7.out.size m.size)
       rw[hw8];rw[hal,show i+nn-i=nn by omega]at HT;clear hw8 hal HRW7 e7 a7 b7;have HRG8:Hid (w8.rangeAt A 0 (mvF al).toList):=hd' (MvIn.range HRW8.out.al);have HTH:=hd' (CellsAt.there HRW8.out.res (o:=0) (m:=8) (by omega));have HMN:=hd' (MvIn.store HRW8.out.res al);have HSN:Hid (Below w.heap.size w (w8.setCells (w.heap.size+1) 0 (mvF al).toList)):=hd' (Below.stored' HRW8.out.bel HRW8.out.bel.size (by omega) _)
       go_wp2_with (first
        | refine wpList_load_mid (by rfl) 60 _ (by rfl) A 0 (by rfl) (mvF al).toList _ HRG8.out Tryz.underlying60 (by rfl) (by rw[info60];rfl) ?_
        | refine wpList_store_mid (by rfl) 60 _ _ (by rfl) (w.heap.size+1) 0 (mvF al) (by rfl) (by rfl) HTH.out (by rw[info60];rfl) (mvF_ones _) ?_)
       refine bodyPost_ret (v:=.tuple #[.agg (mvF al),.int .i64 (nn:Nat)]) ?_ rfl ?_
       ·exact ret_mvn (p:=8) (u:=9) (by kernel_rfl) (by rfl) (by rfl) HMN.out
       ·exact⟨al,nn,_,_,HT.out,rfl,HSN.out⟩
     ·have p3:(o.inn==m.inn)=false:=by rw[beq_eq_false_iff_ne];intro h;exact p0 h.symm
      clear p0 hne
      go_quiet (fail)
      clear m0 m1 m2 m3 o0 o1 o2 o3 HO6;obtain⟨w7,hw7⟩:∃w7,w6.drewN nq=w7:=⟨_,rfl⟩
      have HRW7:Hid (RowW m all M A bb (len+1) cp w w7):=by rw[←hw7];exact hd' (HRW6.out.below (belowN (Below.refl _ _) _))
      rw[hw7];clear hw7 HRW6;have e7:w7.cell? ⟨M,7,none⟩=some (.int .i64 m.size):=CellsAt.cell HRW7.out.mv (j:=7) (by omega);have a7:w7.cell? ⟨A,7,none⟩=some (.int .i64 all.size):=CellsAt.cell HRW7.out.al (j:=7) (by omega);have b7:=CellsAt.free HRW7.out.al 7
      go_upto_region 13 with fail
      obtain⟨w8,hw8⟩:∃w8,w7.setCell ⟨A,7,none⟩ (.int .i64 (m.size:Int))=w8:=⟨_,rfl⟩;obtain⟨al,hal⟩:∃al:B.Mv, { all with size:=m.size}=al:=⟨_,rfl⟩
      have HRW8:Hid (RowW m al M A bb (len+1) cp w w8):=by rw[←hw8,←hal];exact hd' (HRW7.out.size m.size)
      rw[hw8];rw[hal,show i+nn-i=nn by omega]at HT;clear hw8 hal HRW7 e7 a7 b7;have HRG8:Hid (w8.rangeAt A 0 (mvF al).toList):=hd' (MvIn.range HRW8.out.al);have HTH:=hd' (CellsAt.there HRW8.out.res (o:=0) (m:=8) (by omega));have HMN:=hd' (MvIn.store HRW8.out.res al);have HSN:Hid (Below w.heap.size w (w8.setCells (w.heap.size+1) 0 (mvF al).toList)):=hd' (Below.stored' HRW8.out.bel HRW8.out.bel.size (by omega) _)
      go_wp2_with (first
       | refine wpList_load_mid (by rfl) 60 _ (by rfl) A 0 (by rfl) (mvF al).toList _ HRG8.out Tryz.underlying60 (by rfl) (by rw[info60];rfl) ?_
       | refine wpList_store_mid (by rfl) 60 _ _ (by rfl) (w.heap.size+1) 0 (mvF al) (by rfl) (by rfl) HTH.out (by rw[info60];rfl) (mvF_ones _) ?_)
      refine bodyPost_ret (v:=.tuple #[.agg (mvF al),.int .i64 (nn:Nat)]) ?_ rfl ?_
      ·exact ret_mvn (p:=8) (u:=9) (by kernel_rfl) (by rfl) (by rfl) HMN.out
      ·exact⟨al,nn,_,_,HT.out,rfl,HSN.out⟩
    | true=>
     have hsw:=B.sameWay_iff.1 hw;obtain⟨w1',w2',w3',w4'⟩:=hsw;rw[←w1']at o0;rw[←w2']at o1;rw[←w3']at o2;rw[←w4']at o3;have HSW:=hd' hw;clear hw w1' w2' w3' w4'
     have HIN:Hid (∀n,Calls Tryz.prog 51 #[.int .i64 ((i:Int)+(nn:Int)),.int .i64 ((i:Int)+(nn:Int)+(o.size:Int)),.pointer (some ⟨w.heap.size,0,none⟩)] (w6.drewN n) fun e w'=>e= .returned (.bool (B.someIn (B.entd ps) (i+nn) (i+nn+o.size)))∧∃k,w'=(w6.drewN n).drewN k):=by
      refine hd' (fun n=> ?_);have hW:=HRW6.out.below (belowN (Below.refl w6.heap.size w6) n);have hx:=(cell_of_row (w6.drewN n) w.heap.size 0 _ _ _ hW.box).trans (show(#[Value.slice (some ⟨bb,0,none⟩) (len+1) cp]:Array Value)[0]? =_ from rfl);have:=inside_any w.heap.size bb (len+1) cp (i+nn) (i+nn+o.size) (B.entd ps) (w6.drewN n) hx (CellsAt.below HBB.out hW.bel hbblt) (by omega) (by omega);rw[show((i+nn:Nat):Int)=(i:Int)+(nn:Int) by omega,show((i+nn+o.size:Nat):Int)=(i:Int)+(nn:Int)+(o.size:Int) by omega]at this;exact this.mono (fun e w' ⟨h1,h2⟩=>⟨h1,0,h2⟩)
     cases hi2:B.someIn (B.entd ps) (i+nn) (i+nn+o.size)with
     | true=>
      rw[hi2]at HIN;obtain⟨lo,co,htold⟩:=HAT.out.told HM.out HINF.out (B.nextMv_not HMO.out (by rw[hi2];simp));have HT:=hd' htold;clear htold hg;clear hi2
      go_quiet (exact Calls.quiet_of (HIN.out _))
      clear m0 m1 m2 m3 o0 o1 o2 o3 HO6;obtain⟨w7,hw7⟩:∃w7,w6.drewN nq=w7:=⟨_,rfl⟩
      have HRW7:Hid (RowW m all M A bb (len+1) cp w w7):=by rw[←hw7];exact hd' (HRW6.out.below (belowN (Below.refl _ _) _))
      rw[hw7];clear hw7 HRW6;have e7:w7.cell? ⟨M,7,none⟩=some (.int .i64 m.size):=CellsAt.cell HRW7.out.mv (j:=7) (by omega);have a7:w7.cell? ⟨A,7,none⟩=some (.int .i64 all.size):=CellsAt.cell HRW7.out.al (j:=7) (by omega);have b7:=CellsAt.free HRW7.out.al 7
      go_upto_region 13 with fail
      obtain⟨w8,hw8⟩:∃w8,w7.setCell ⟨A,7,none⟩ (.int .i64 (m.size:Int))=w8:=⟨_,rfl⟩;obtain⟨al,hal⟩:∃al:B.Mv, { all with size:=m.size}=al:=⟨_,rfl⟩
      have HRW8:Hid (RowW m al M A bb (len+1) cp w w8):=by rw[←hw8,←hal];exact hd' (HRW7.out.size m.size)
      rw[hw8];rw[hal,show i+nn-i=nn by omega]at HT;clear hw8 hal HRW7 e7 a7 b7;have HRG8:Hid (w8.rangeAt A 0 (mvF al).toList):=hd' (MvIn.range HRW8.out.al);have HTH:=hd' (CellsAt.there HRW8.out.res (o:=0) (m:=8) (by omega));have HMN:=hd' (MvIn.store HRW8.out.res al);have HSN:Hid (Below w.heap.size w (w8.setCells (w.heap.size+1) 0 (mvF al).toList)):=hd' (Below.stored' HRW8.out.bel HRW8.out.bel.size (by omega) _)
      go_wp2_with (first
       | refine wpList_load_mid (by rfl) 60 _ (by rfl) A 0 (by rfl) (mvF al).toList _ HRG8.out Tryz.underlying60 (by rfl) (by rw[info60];rfl) ?_
       | refine wpList_store_mid (by rfl) 60 _ _ (by rfl) (w.heap.size+1) 0 (mvF al) (by rfl) (by rfl) HTH.out (by rw[info60];rfl) (mvF_ones _) ?_)
      refine bodyPost_ret (v:=.tuple #[.agg (mvF al),.int .i64 (nn:Nat)]) ?_ rfl ?_
      ·exact ret_mvn (p:=8) (u:=9) (by kernel_rfl) (by rfl) (by rfl) HMN.out
      ·exact⟨al,nn,_,_,HT.out,rfl,HSN.out⟩
     | false=>
      rw[hi2]at HIN;obtain⟨t,ht⟩:∃t:Nat,m.t=t:=⟨m.t.toNat,by have:=HOK.out.t0;omega⟩
      have ht16:t<16:=by have:=HOK.out.t15;omega
      rw[ht]at m1 o1
      have HTT:Hid (m.t.toNat=t):=by rw[ht];exact hd' rfl
      clear ht
      have cr:w6.cell? ⟨rb,(i+nn+o.size)*16+t,none⟩=some (.bool (B.ndL ps (i+nn+o.size) t)):=by
       have:=CellsAt.cell (CellsAt.below HRR.out HRW6.out.bel hrblt) (j:=(i+nn+o.size)*16+t) (by omega);rw[show((i+nn+o.size)*16+t)/16=i+nn+o.size by omega,show((i+nn+o.size)*16+t)%16=t by omega]at this;exact this
      have e1:(0:Int)≤(i:Int)+(nn:Int)+(o.size:Int):=by omega
      have e2:(i:Int)+(nn:Int)+(o.size:Int)<(len:Int)+1:=by omega
      have e3:((i:Int)+(nn:Int)+(o.size:Int)).toNat=i+nn+o.size:=by omega
      have t0:(0:Int)≤(t:Int):=by omega
      have t1:(t:Int)<16:=by omega
      cases hrd:B.ndL ps (i+nn+o.size) t with
      | true=>
       rw[hrd]at cr;obtain⟨lo,co,htold⟩:=HAT.out.told HM.out HINF.out (B.nextMv_not HMO.out (by rw[HTT.out,hrd];simp));have HT:=hd' htold;clear htold hg;clear hi2 hrd
       go_quiet (exact Calls.quiet_of (HIN.out _))
       clear m0 m1 m2 m3 o0 o1 o2 o3 HO6;clear cr;obtain⟨w7,hw7⟩:∃w7,w6.drewN nq=w7:=⟨_,rfl⟩
       have HRW7:Hid (RowW m all M A bb (len+1) cp w w7):=by rw[←hw7];exact hd' (HRW6.out.below (belowN (Below.refl _ _) _))
       rw[hw7];clear hw7 HRW6;have e7:w7.cell? ⟨M,7,none⟩=some (.int .i64 m.size):=CellsAt.cell HRW7.out.mv (j:=7) (by omega);have a7:w7.cell? ⟨A,7,none⟩=some (.int .i64 all.size):=CellsAt.cell HRW7.out.al (j:=7) (by omega);have b7:=CellsAt.free HRW7.out.al 7
       go_upto_region 13 with fail
       obtain⟨w8,hw8⟩:∃w8,w7.setCell ⟨A,7,none⟩ (.int .i64 (m.size:Int))=w8:=⟨_,rfl⟩;obtain⟨al,hal⟩:∃al:B.Mv, { all with size:=m.size}=al:=⟨_,rfl⟩
       have HRW8:Hid (RowW m al M A bb (len+1) cp w w8):=by rw[←hw8,←hal];exact hd' (HRW7.out.size m.size)
       rw[hw8];rw[hal,show i+nn-i=nn by omega]at HT;clear hw8 hal HRW7 e7 a7 b7;have HRG8:Hid (w8.rangeAt A 0 (mvF al).toList):=hd' (MvIn.range HRW8.out.al);have HTH:=hd' (CellsAt.there HRW8.out.res (o:=0) (m:=8) (by omega));have HMN:=hd' (MvIn.store HRW8.out.res al);have HSN:Hid (Below w.heap.size w (w8.setCells (w.heap.size+1) 0 (mvF al).toList)):=hd' (Below.stored' HRW8.out.bel HRW8.out.bel.size (by omega) _)
       go_wp2_with (first
        | refine wpList_load_mid (by rfl) 60 _ (by rfl) A 0 (by rfl) (mvF al).toList _ HRG8.out Tryz.underlying60 (by rfl) (by rw[info60];rfl) ?_
        | refine wpList_store_mid (by rfl) 60 _ _ (by rfl) (w.heap.size+1) 0 (mvF al) (by rfl) (by rfl) HTH.out (by rw[info60];rfl) (mvF_ones _) ?_)
       refine bodyPost_ret (v:=.tuple #[.agg (mvF al),.int .i64 (nn:Nat)]) ?_ rfl ?_
       ·exact ret_mvn (p:=8) (u:=9) (by kernel_rfl) (by rfl) (by rfl) HMN.out
       ·exact⟨al,nn,_,_,HT.out,rfl,HSN.out⟩
      | false=>
       rw[hrd]at cr;have HNM:=hd' (B.nextMv_yes HMO.out ⟨HSW.out,hi2,by rw[HTT.out];exact hrd⟩);clear hi2 hrd
       go_quiet (exact Calls.quiet_of (HIN.out _))
       clear m0 m1 m2 m3 o0 o1 o2 o3 cr;obtain⟨w7,hw7⟩:∃w7,w6.drewN nq=w7:=⟨_,rfl⟩
       have HRW7:Hid (RowW m all M A bb (len+1) cp w w7):=by rw[←hw7];exact hd' (HRW6.out.below (belowN (Below.refl _ _) _))
       have HO7:Hid (MvIn w7 O o):=by rw[←hw7];exact hd' (CellsAt.drew HO6.out _)
       rw[hw7];clear hw7 HRW6 HO6;have HRA:Hid (w7.rangeAt A 0 (mvF all).toList):=hd' (MvIn.range HRW7.out.al);have HRO:Hid (w7.rangeAt O 0 (mvF o).toList):=hd' (MvIn.range HO7.out);have hOlt:=CellsAt.blk HO7.out
       go_wp2_with (first
        | refine wpList_load_mid (by rfl) 60 _ (by rfl) A 0 (by rfl) (mvF all).toList _ HRA.out Tryz.underlying60 (by rfl) (by rw[info60];rfl) ?_
        | refine wpList_load_mid (by rfl) 60 _ (by rfl) O 0 (by rfl) (mvF o).toList _ HRO.out Tryz.underlying60 (by rfl) (by rw[info60];rfl) ?_)
       refine(join_any all o HAT.out.ok (B.read_ok HW.out HMO.out) _).mono ?_;rintro e w8 ⟨rfl,hb8⟩;have HRW8:=hd' (HRW7.out.below hb8);have HO8:=hd' (CellsAt.below HO7.out hb8 hOlt);have HTH:=hd' (CellsAt.there HRW8.out.al (o:=0) (m:=8) (by omega));have HNX:=hd' (HAT.out.next HW.out HNM.out);obtain⟨al,hal⟩:∃al,B.joinM all o=al:=⟨_,rfl⟩;rw[hal]at HNX⊢;have HRW9:=hd' (HRW8.out.set al);have HO9:Hid (MvIn (w8.setCells A 0 (mvF al).toList) O o):=hd' (CellsAt.grown HO8.out (grownBy_setCells A (mvF al).toList 0 w8) (by omega));clear hb8 hal HRA HRO HRW7 HO7 HRW8 HO8
       go_upto_region 15 with(refine wpList_store_mid (by rfl) 60 _ _ (by rfl) A 0 (mvF al) (by rfl) (by rfl) HTH.out (by rw[info60];rfl) (mvF_ones _) ?_)
       obtain⟨w9,hw9⟩:∃w9,w8.setCells A 0 (mvF al).toList=w9:=⟨_,rfl⟩;rw[hw9]at HRW9 HO9;rw[hw9];clear hw9 HTH;have o7:w9.cell? ⟨O,7,none⟩=some (.int .i64 o.size):=CellsAt.cell HO9.out (j:=7) (by omega);have s5:IntKind.i64.wrap ((nn:Int)+(o.size:Int))=(nn:Int)+(o.size:Int):=IntWalk.i64_in _ (by omega);go_wp2_with fail
       go_roundg (len-(i+(nn+o.size)))
       case measure=>omega
       case rel=>exact⟨nn+o.size,al,by omega,by go_num,by rw[←Nat.add_assoc];exact HNX.out,HRW9.out⟩
theorem row_any(a:Option Addr)(len cap i bb cp rb rc:Nat)(ps:List B.Ins)(w:World)(hp:ProgAt w a len ps)(hc:len≤cap)(hw:∀x∈ps,x.right=true)(hl:len≤16384)(hi:i<len)
    (hb:BoolsIn w bb (len+1) (B.entd ps)) (hr:CellsAt w rb 82 ((len+1)*16) (fun j=>.bool (B.ndL ps (j/16) (j%16)))):
    Calls Tryz.prog 30 #[.slice a len cap,.int .i64 i,.slice (some ⟨bb,0,none⟩) (len+1) cp,.slice (some ⟨rb,0,none⟩) (len+1) rc] w (RowOut ps i w):=by
 cases hm:B.readMv (ps.drop i)with
 | none=>exact row_none a len cap i bb (len+1) cp rb (len+1) rc ps w hp hc hw hl hi hb hm
 | some m=>exact row_some a len cap i bb cp rb rc ps m w hp hc hw hl hi hb hr hm
end Code
end Go.Proofs.YtpibampaobncaaaGreatDoor
namespace Go.Proofs.YtpibampaobncaaaGreatDoor
open Go.RowKit
namespace Code
attribute [local go_sem ↓] Go.wp_at_zero Go.wp_at_succ
theorem app_moreG{ops:Array Oper}{rest:List Oper}{o:Oper}{a:Act}{Q:Exit→Act→World→Prop}{w:World}(hgd:o.guard=none)(s x:Operand)
    (ho:o.op= .call { callee:=.builtin .append,args:= #[s,x],argTypes:= #[26,26]})
    (base:Nat) {ao:Option Addr} {n cap:Nat} {qs:List B.Ins} (hs:a.eval s= .slice ao n cap) (hown:OwnP w base ao n cap qs)
    {a2:Option Addr} {m c2:Nat} {ps:List B.Ins} (hx:a.eval x= .slice a2 m c2) (hp:ProgAt w a2 m ps) (hnil:a2=none→c2=0) (hbytes:(n+m)*40≤140737488355328) (hbase:base≤w.heap.size)
    (h:∀ao' cap' w',OwnP w' base ao' (n+m) cap' (qs++ps)→w.grownBy w' (Value.ownBlock (.slice ao n cap))→Below base w w'→w.heap.size≤w'.heap.size→wpList Tryz.prog ops Q rest (a.put o.dst (.slice ao' (n+m) cap')) w'):
    wpList Tryz.prog ops Q (o::rest) a w:=by
 obtain⟨i,hi,hz0,hz1,hz2⟩:=info_parts info25;have hlt:=hown.own.lt
 cases a2 with
 | none=>
  obtain⟨rfl,rfl⟩:=hp.none_nil;obtain rfl:=hnil rfl;refine wpList_append_own_none hgd s x 26 ho base 25 i 5 Tryz.underlying26 hi _ n (cellsP qs) hs hown.own hx ?_;exact h ao cap w (by rw[List.append_nil];exact hown) (World.grownBy.refl _ _) (Below.refl _ _) (lR' _)
 | some ad=>
  refine wpList_append_own _ hgd s x 26 ho base 25 i _ 5 40 Tryz.underlying26 hi hz0 hz1 hz2 rfl (by decide) _ n (cellsP qs) hs hown.own ad m c2 (cellsP ps) hx (by rw[cellsP_length,hp.len]) hp.news (cellsP_ones ps) (by simp only[maxLen];omega) hbytes hbase ?_;intro v' w' hown' hg hv;have hb:Below base w w':=(Below.refl base w).grown hg hbase (fun k hk=>(hlt k hk).1);have hsz:w.heap.size≤w'.heap.size:=hb.size
  have hlen:n+m=(qs++ps).length:=by rw[List.length_append,hown.len,hp.len]
  rcases hown'.2 with⟨hv0,hn⟩ | ⟨g,cap',cur,rfl,rest'⟩
  ·subst hv0
   have hm:n+m=0:=hn;have e:=h none 0 w' ⟨hlen,by rw[cellsP_append,hm];rw[hm]at hown';exact hown'⟩ hg hb hsz;rw[hm]at e;exact e
  ·exact h _ _ _ ⟨hlen,by rw[cellsP_append];exact hown'⟩ hg hb hsz
theorem cellsP_cons(x:B.Ins)(l:List B.Ins):cellsP (x::l)=cellsI x++cellsP l:=by unfold cellsP;rw[List.flatMap_cons]
theorem cellsP_setN(v:Int):∀(qs:List B.Ins) (j:Nat),j<qs.length→cellsP (B.setN qs (j,v))=(cellsP qs).set (j*5+3) (.int .i64 v)
 | [],j,h=>by simp at h
 | x::l,0,_=>by
  show cellsP ({ x with n:=v}::l)=_
  rw[cellsP_cons,cellsP_cons];rfl
 | x::l,j+1,h=>by
  show cellsP (x::B.setN l (j,v))=_
  rw[cellsP_cons,cellsP_cons,cellsP_setN v l j (by simpa using h),List.set_append_right _ _ (by rw[cellsI_length];omega),cellsI_length,show(j+1)*5+3-5=j*5+3 by omega]
theorem ownP_setN{w:World}{base g n cap:Nat}{qs:List B.Ins}(h:OwnP w base (some ⟨g,0,none⟩) n cap qs)(j:Nat)(v:Int)(hj:j<qs.length):OwnP (w.setCell ⟨g,j*5+3,none⟩ (.int .i64 v)) base (some ⟨g,0,none⟩) n cap (B.setN qs (j,v)):=by
 have h1:=(World.ownsRow.stored h.own (j*5+3) (.int .i64 v)).1;exact⟨by rw[B.setN_length];exact h.len,by rw[cellsP_setN v qs j hj];exact h1⟩
theorem CellsAt.ne{w:World}{b b' n n':Nat}{t t':TypeId}{f f':Nat→Value}(h:CellsAt w b t n f)(h':CellsAt w b' t' n' f')(hne:t≠t'):b≠b':=by
 rintro rfl;obtain⟨C,hC,_⟩:=h;obtain⟨C',hC',_⟩:=h';rw[hC]at hC';simp only[Option.some.injEq,Obj.cells.injEq]at hC';exact hne hC'.2.1
theorem ownP_ne{w:World}{base:Nat}{ao:Option Addr}{n cap:Nat}{qs:List B.Ins}{b m:Nat}{t:TypeId}{f:Nat→Value}(ho:OwnP w base ao n cap qs)(h:CellsAt w b t m f)(hne:25≠t):Value.ownBlock (.slice ao n cap)≠some b:=by
 obtain⟨C,hC,_⟩:=h;exact own_ne ho.own hC hne
theorem CellsAt.grownV{w w':World}{v:Value}{b n:Nat}{t:TypeId}{f:Nat→Value}(h:CellsAt w b t n f)(hg:w.grownBy w' v.ownBlock)(hne:v.ownBlock≠some b):CellsAt w' b t n f:=
 h.of (hg.block b (CellsAt.blk h) (Ne.symm hne))
theorem progAt_take{w:World}{a:Option Addr}{len n:Nat}{ps:List B.Ins}(h:ProgAt w a len ps)(hn:n≤len):ProgAt w a n (ps.take n):=by
 refine⟨by rw[List.length_take,←h.len];omega,fun i x hx=> ?_⟩;rw[List.getElem?_take]at hx;split at hx
 ·exact h.at_ i x hx
 ·cases hx
structure RunM(ps:List B.Ins)(len b1 b2 P:Nat)(ao:Option Addr)(c:Nat)(out:List B.Ins)(f:Nat→Nat)(w wy:World):Prop where
 own:OwnP wy w.heap.size ao out.length c out
 place:CellsAt wy P 3 (len+1) (fun k=>.int .i64 (f k:Nat))
 ats:BoolsIn wy b1 (len+1) (B.entd ps)
 rds:CellsAt wy b2 82 ((len+1)*16) (fun j=>.bool (B.ndL ps (j/16) (j%16)))
 bel:Below w.heap.size w wy
 lP:w.heap.size≤P
theorem RunM.below{ps:List B.Ins}{len b1 b2 P:Nat}{ao:Option Addr}{c:Nat}{out:List B.Ins}{f:Nat→Nat}{w wy wz:World}(h:RunM ps len b1 b2 P ao c out f w wy)(hb:Below wy.heap.size wy wz):RunM ps len b1 b2 P ao c out f w wz:=
 ⟨h.own.kept hb,CellsAt.below h.place hb (CellsAt.blk h.place),CellsAt.below h.ats hb (CellsAt.blk h.ats),CellsAt.below h.rds hb (CellsAt.blk h.rds),h.bel.trans (hb.mono h.bel.size),h.lP⟩
theorem RunM.congr{ps:List B.Ins}{len b1 b2 P:Nat}{ao:Option Addr}{c:Nat}{out:List B.Ins}{f f':Nat→Nat}{w wy:World}(h:RunM ps len b1 b2 P ao c out f w wy)(he:∀k,k≤len→f k=f' k):RunM ps len b1 b2 P ao c out f' w wy:=
 ⟨h.own,CellsAt.congr h.place (fun j hj=>by rw[he j (by omega)]),h.ats,h.rds,h.bel,h.lP⟩
theorem RunM.set{ps:List B.Ins}{len b1 b2 P:Nat}{ao:Option Addr}{c:Nat}{out:List B.Ins}{f:Nat→Nat}{w wy:World}(h:RunM ps len b1 b2 P ao c out f w wy)(k v:Nat):RunM ps len b1 b2 P ao c out (fun q=>if q=k then v else f q) w (wy.setCell ⟨P,k,none⟩ (.int .i64 (v:Int))):=by
 have hlt:=CellsAt.blk h.place;have n1:=CellsAt.ne h.ats h.place (by decide);have n2:=CellsAt.ne h.rds h.place (by decide);have n3:=ownP_ne h.own h.place (by decide);refine⟨⟨h.own.len, ?_⟩,CellsAt.congr (CellsAt.set h.place k (.int .i64 (v:Int))) (fun j _=>by by_cases e:j=k<;>simp[e]),CellsAt.other h.ats _ _ n1,CellsAt.other h.rds _ _ n2,h.bel.setCell h.lP _,h.lP⟩;have ho:=h.own.own;refine⟨ho.1, ?_⟩;rcases ho.2 with h2 | ⟨g,cap,cur,e,hb,hh,h3⟩
 ·exact .inl h2
 ·refine .inr ⟨g,cap,cur,e,hb, ?_,h3⟩
  rw[e]at n3;exact(blk_other _ (fun e2=>n3 (by rw[e2];rfl))).trans hh
theorem RunM.grown{ps:List B.Ins}{len b1 b2 P:Nat}{ao ao':Option Addr}{c c':Nat}{out out':List B.Ins}{f:Nat→Nat}{w wy wz:World}(h:RunM ps len b1 b2 P ao c out f w wy)(ho:OwnP wz w.heap.size ao' out'.length c' out')(hg:wy.grownBy wz (Value.ownBlock (.slice ao out.length c))):RunM ps len b1 b2 P ao' c' out' f w wz:=
 ⟨ho,CellsAt.grownV (v:=.slice ao out.length c) h.place hg (ownP_ne h.own h.place (by decide)),CellsAt.grownV (v:=.slice ao out.length c) h.ats hg (ownP_ne h.own h.ats (by decide)),CellsAt.grownV (v:=.slice ao out.length c) h.rds hg (ownP_ne h.own h.rds (by decide)),
  h.bel.grown hg h.bel.size (fun k hk=>(h.own.own.lt k hk).1),h.lP⟩
def FuseOut(ps:List B.Ins)(w:World)(e:Ending)(w':World):Prop:=∃ao cp,e= .returned (.tuple #[.slice ao (B.fuse ps).length cp,.nilIface])∧OwnP w' w.heap.size ao (B.fuse ps).length cp (B.fuse ps)∧Below w.heap.size w w'
def FuseNo(ps:List B.Ins)(size slots:Int)(w:World)(e:Ending)(w':World):Prop:=e= .returned (.tuple #[.slice none 0 0,(progEr ps size slots).val])∧Below w.heap.size w w'
set_option maxRecDepth 100000 in
set_option maxHeartbeats 3200000 in
theorem fuse_no(a:Option Addr)(len cap:Nat)(ps:List B.Ins)(size slots:Int)(w:World)(hp:ProgAt w a len ps)(hwf:∀y∈ps,y.Wf)(ht:Tabs w)(hr:len≤9223372036854775807)(hm:¬B.MayRun ps size slots):
    Calls Tryz.prog 17 #[.slice a len cap,.int .i64 size,.int .i64 slots] w (FuseNo ps size slots w):=by
 have HP:=hd' hp;have HWF:=hd' hwf;have HT:=hd' ht;obtain⟨T,v,hv⟩:=Er.shape _ (progEr_shape hm);have HV:=hd' hv;clear hp hwf ht hm hv;go_enter Tryz.func17,Tryz.ntmps17;go_wp2_with fail;refine(program_er a len cap ps size slots _ HP.out HWF.out HT.out hr).mono ?_;rintro e w1 ⟨rfl,hb1⟩;have HB1:=hd' hb1;clear hb1;rw[HV.out];go_wp2_with fail;go_ret2;exact⟨by rw[HV.out];rfl,HB1.out⟩
set_option maxRecDepth 100000 in
set_option maxHeartbeats 25600000 in
theorem fuse_yes(a:Option Addr)(len cap:Nat)(hc:len≤cap)(ps:List B.Ins)(size slots:Int)(w:World)(hp:ProgAt w a len ps)(hwf:∀y∈ps,y.Wf)(ht:Tabs w)(hm:B.MayRun ps size slots):
    Calls Tryz.prog 17 #[.slice a len cap,.int .i64 size,.int .i64 slots] w (FuseOut ps w):=by
 have HP:=hd' hp;have HM:=hd' hm;have HWF:=hd' hwf;have HT:=hd' ht
 have HRIGHT:Hid (∀x∈ps,x.right=true):=hd' (fun x hx=>by
  obtain⟨i,hi,rfl⟩:=List.getElem_of_mem hx
  exact hm.ok.right i _ (List.getElem?_eq_getElem hi))
 have hl:len≤16384:=by have:=hm.len;have:=hp.len;omega
 have hlw:IntKind.i64.wrap ((len:Int)+1)=(len:Int)+1:=IntWalk.i64_in _ (by omega);clear hp hwf ht hm;go_enter Tryz.func17,Tryz.ntmps17;go_wp2_with fail;refine(program_yes a len cap ps size slots _ HP.out HWF.out HT.out (by omega) HM.out).mono ?_;rintro e w1 ⟨rfl,hb1⟩;have HB1:=hd' hb1;have hs1:=hb1.size;clear hb1;go_wp2_with fail;refine(entered_any a len cap ps size slots _ (HP.out.below HB1.out (lR' _)) HM.out.ok hl).mono ?_;rintro e w2 ⟨b1,rfl,hb1l,hats,hb2⟩;have HB2:=hd' (HB1.out.trans (hb2.mono hs1));have hs2:=HB2.out.size;have HATS:=hd' hats;clear hats hb2;go_wp2_with fail;refine(needed_any a len cap ps size slots _ (HP.out.below HB2.out (lR' _)) HM.out.ok hl).mono ?_;rintro e w3 ⟨b2,rfl,hb2l,hrds,hb3⟩;have HB3:=hd' (HB2.out.trans (hb3.mono hs2));have HATS3:=hd' (CellsAt.below HATS.out hb3 (CellsAt.blk HATS.out));have hs3:=HB3.out.size
 obtain⟨C,hmk,hC,hC'⟩:=ints_made w3 len (by omega)
 have HM3:Hid (RunM ps len b1 b2 w3.heap.size none 0 [] (fun _=>0) w (w3.alloc (.cells C 3))):=
  hd' ⟨OwnP.nil _ _,⟨C,heap_alloc_new w3 _,hC,fun j hj=>hC' j hj⟩,CellsAt.alloc HATS3.out _,CellsAt.alloc hrds _,HB3.out.alloc hs3 _,hs3⟩
 clear hrds hb3 hC hC' HATS HATS3;go_wp2_with fail;generalize hPe:w3.heap.size=P at*;clear hPe hmk
 go_loopg [11,13] len (fun g v i wr=>∃(q:Nat) (ao:Option Addr) (c:Nat) (out:List B.Ins) (pl f:Nat→Nat),g+q=len∧i= .int .i64 q∧v= .slice ao out.length c∧B.Fz ps q out pl∧(∀k,k<q→f k=pl k)∧RunM ps len b1 b2 P ao c out f w wr)
 case atStart=>exact⟨0,none,0,[],fun _=>0,fun _=>0,rfl,rfl,rfl,.start,fun k hk=>by omega,HM3.out⟩
 case round=>
  obtain⟨q,ao,c,out,pl,f,hg,rfl,rfl,hfz,hf,hrm⟩:=hrel;have HFZ:=hd' hfz;have HF:=hd' hf;have HRM:=hd' hrm;have hshort:=hfz.short;clear hfz hf hrm HM3
  by_cases hlt:q<len
  ·have HROW:=hd' (row_any a len cap q b1 (len+1) b2 (len+1) ps wr (HP.out.below HRM.out.bel (lR' _)) hc HRIGHT.out hl hlt HRM.out.ats HRM.out.rds)
   go_wp2_with fail;refine HROW.out.mono ?_;rintro e w4 ⟨m,n,l,cc,htold,rfl,hb4⟩;clear HROW;have HT:=hd' htold;have hn1:=htold.one
   have hqn:q+n≤len:=by have:=htold.fits;have:=HP.out.len;omega
   have HRM4:=hd' (HRM.out.below hb4);have HB4:=hd' hb4;clear htold hb4 HRM;simp only[mvF]
   go_upto_region 10 with fail
   obtain⟨w5,hw5⟩:∃w5,w4.alloc (.cells #[.bool m.inn,.int .i64 m.t,.int .i64 m.v,.int .i64 m.way,.int .i64 m.b,.int .i64 m.e,.int .u64 m.bits,.int .i64 m.size] 60)=w5:=⟨_,rfl⟩;obtain⟨M,hMe⟩:∃M,w4.heap.size=M:=⟨_,rfl⟩
   have HRM5:Hid (RunM ps len b1 b2 P ao c out f w w5):=by rw[←hw5];exact hd' (HRM4.out.below ((Below.refl _ _).alloc (lR' _) _))
   have HMV5:Hid (MvIn w5 M m):=by rw[←hw5,←hMe];exact hd' (MvIn.new m w4)
   have hMl:w.heap.size≤M:=by have:=HRM4.out.bel.size;omega
   rw[hw5,hMe];clear hw5 hMe HRM4 HB4;have s1:IntKind.i64.wrap ((q:Int)+(n:Int))=(q:Int)+(n:Int):=IntWalk.i64_in _ (by omega)
   have hol:out.length≤16384:=by omega
   obtain⟨ol,hole⟩:∃ol,out.length=ol:=⟨_,rfl⟩;rw[hole]at hol hshort⊢;have HOL:=hd' hole;clear hole;go_wp2_with fail;obtain⟨wo,hwo⟩:∃wo:World,wo=wr:=⟨_,rfl⟩;subst hwo
   go_loopw [16] (fun v wy=>∃k:Nat,q≤k∧k≤q+n∧v= .int .i64 k∧RunM ps len b1 b2 P ao c out (fun j=>if q≤j∧j<k then ol else f j) w wy∧MvIn wy M m) (fun v _=>(q+n)-(intOf v).toNat)
   case atStart=>exact⟨q,lR' _,by omega,rfl,HRM5.out.congr (fun j _=>by rw[if_neg (by omega)]),HMV5.out⟩
   case round=>
    obtain⟨k,hk1,hk2,rfl,hrm,hmv⟩:=hrel;have HRMK:=hd' hrm;have HMVK:=hd' hmv;clear hrm hmv HRM5 HMV5
    by_cases hlt2:k<q+n
    ·have cP:=CellsAt.cell HRMK.out.place (j:=k) (by omega)
     have fP:=CellsAt.free HRMK.out.place k;have hne:=CellsAt.ne HMVK.out HRMK.out.place (by decide)
     have k0:(0:Int)≤(k:Int):=by omega
     have k1:(k:Int)<(len:Int)+1:=by omega
     have HS:=hd' (HRMK.out.set k ol);have HMS:Hid (MvIn (wr.setCell ⟨P,k,none⟩ (.int .i64 (ol:Int))) M m):=hd' (CellsAt.other HMVK.out _ _ hne);clear HRMK HMVK hne;go_wp2_with fail;go_roundw
     case rel=>
      refine⟨k+1,by omega,by omega,by go_num,HS.out.congr (fun j _=> ?_),HMS.out⟩
      by_cases e:j=k
      ·subst e;rw[if_pos rfl,if_pos (by omega)]
      ·rw[if_neg e]
       by_cases h:q≤j∧j<k
       ·rw[if_pos h,if_pos (by omega)]
       ·rw[if_neg h,if_neg (by omega)]
     case measure=>simp[intOf];omega
    ·obtain rfl:k=q+n:=by omega
     have m7:wr.cell? ⟨M,7,none⟩=some (.int .i64 m.size):=CellsAt.cell HMVK.out (j:=7) (by omega);clear hk1 hk2 hlt2;rw[show((q+n:Nat):Int)=(q:Int)+(n:Int) by omega]
     cases cc with
     | true=>
      obtain⟨hms,hlm,hok⟩:=HT.out.joined rfl;have HLM:=hd' hlm;have HOKM:=hd' hok
      have g1:decide (m.size<n)=true:=by simpa using hms
      have HRGM:Hid (wr.rangeAt M 0 (mvF m).toList):=hd' (MvIn.range HMVK.out);clear hlm hok;go_wp2_with (refine wpList_load_mid (by rfl) 60 _ (by rfl) M 0 (by rfl) (mvF m).toList _ HRGM.out Tryz.underlying60 (by rfl) (by rw[info60];rfl) ?_);refine(code_any m HOKM.out _).mono ?_;rintro e w6 ⟨a6,c6,rfl,hown6,hb6⟩;have HO6:=hd' hown6;have HRM6:=hd' (HRMK.out.below hb6);have hcl:m.code.length≤4:=Nat.le_trans B.code_len.2 (by split<;>omega);have hsz6:=HRM6.out.bel.size
      have HOWN:Hid (OwnP w6 w.heap.size ao ol c out):=by rw[←HOL.out];exact hd' HRM6.out.own
      have hnc:=OwnP.nilCap hown6;clear hown6 hb6 HRMK HMVK HRGM m7 g1;go_wp2_with (at_builtin;refine app_moreG rfl _ _ rfl w.heap.size rfl HOWN.out rfl HO6.out.progAt hnc (by omega) hsz6 ?_;intro ao7 cp7 w7 hown7 hg7 hb7 hs7)
      have HRM7:Hid (RunM ps len b1 b2 P ao7 cp7 (out++m.code) (fun j=>if q≤j∧j<q+n then ol else f j) w w7):=by
       refine hd' (HRM6.out.grown (out':=out++m.code) ?_ (by rw[HOL.out];exact hg7));rw[List.length_append,HOL.out];exact hown7
      clear hown7 hg7 hb7 HRM6 HO6 HOWN hnc;go_wp2_with fail
      go_roundg (len-(q+n))
      case measure=>omega
      case rel=>
       refine⟨q+n,ao7,cp7,out++m.code,B.plNew q n ol true pl,fun j=>if q≤j∧j<q+n then ol else f j,by omega,by go_num,by rw[List.length_append,HOL.out], ?_, ?_,HRM7.out⟩
       ·have:=B.Told.step HFZ.out HT.out
        rw[HOL.out,HLM.out]at this;exact this
       ·intro k hk
        show(if q≤k∧k<q+n then ol else f k)=_
        by_cases h:q≤k
        ·rw[if_pos ⟨h,hk⟩,B.plNew_in h hk,if_pos rfl]
        ·rw[if_neg (by omega),B.plNew_out (by omega)]
         exact HF.out k (by omega)
     | false=>
      obtain⟨hms,hlm⟩:=HT.out.single rfl;have HLM:=hd' hlm
      have g1:decide (m.size<n)=false:=by simpa using hms
      have hll:l.length=n:=by rw[hlm,List.length_take,List.length_drop];have:=HP.out.len;omega
      have HLL:=hd' hll;obtain⟨x,hx⟩:∃x,ps[q]? =some x:=⟨ps[q]'(by have:=HP.out.len;omega),List.getElem?_eq_getElem _⟩;obtain⟨b,off,rfl,_,_⟩:=HP.out.at_ q x hx
      have hqq:q+n-q=n:=by omega
      have hPL:Hid (ProgAt wr (some ⟨b,off+q*5,none⟩) (q+n-q) l):=by
       rw[hqq];have h1:=progAt_drop (HP.out.below HRMK.out.bel (lR' _)) (k:=q) rfl;have h2:=progAt_take h1 (n:=n) (by omega);rw[hlm];exact hd' h2
      have HOWN:Hid (OwnP wr w.heap.size ao ol c out):=by rw[←HOL.out];exact hd' HRMK.out.own
      have hszr:=HRMK.out.bel.size
      have q0:¬cap=q:=by omega
      clear hlm hll hx
      have hnl:(some (⟨b,off+q*5,none⟩:Addr))=none→cap-q=0:=fun h=>by cases h
      have HQQ:=hd' hqq;clear hqq
      go_upto_region 17 with(at_builtin;refine app_moreG rfl _ _ rfl w.heap.size rfl HOWN.out rfl hPL.out hnl (by omega) hszr ?_;intro ao7 cp7 w7 hown7 hg7 hb7 hs7)
      rw[HQQ.out]at hown7
      have HRM7:Hid (RunM ps len b1 b2 P ao7 cp7 (out++l) (fun j=>if q≤j∧j<q+n then ol else f j) w w7):=by
       refine hd' (HRMK.out.grown (out':=out++l) ?_ (by rw[HOL.out];exact hg7));rw[List.length_append,HOL.out,HLL.out];exact hown7
      obtain⟨L,hL⟩:∃L,ol+n=L:=⟨_,rfl⟩
      have hLl:ol+n≤L:=by omega
      have hLg:L≤ol+n:=by omega
      rw[hL];have HLE:=hd' hL;clear hown7 hg7 hb7 HOWN hPL hL HRMK HMVK m7 g1 hms;go_wp2_with fail;obtain⟨wo2,hwo2⟩:∃wo2:World,wo2=wr:=⟨_,rfl⟩;subst hwo2
      go_loopw [17] (fun v wy=>∃k:Nat,q≤k∧k≤q+n∧v= .int .i64 k∧RunM ps len b1 b2 P ao7 cp7 (out++l) (fun j=>if q≤j∧j<k then ol+(j-q)else if q≤j∧j<q+n then ol else f j) w wy) (fun v _=>(q+n)-(intOf v).toNat)
      case atStart=>exact⟨q,lR' _,by omega,rfl,HRM7.out.congr (fun j _=>by rw[if_neg (c:=q≤j∧j<q) (by omega)])⟩
      case round=>
       obtain⟨k,hk1,hk2,rfl,hrm⟩:=hrel;have HRMK:=hd' hrm;clear hrm HRM7
       by_cases hlt2:k<q+n
       ·have cP:=CellsAt.cell HRMK.out.place (j:=k) (by omega)
        have fP:=CellsAt.free HRMK.out.place k
        have k0:(0:Int)≤(k:Int):=by omega
        have k1:(k:Int)<(len:Int)+1:=by omega
        have y1:IntKind.i64.wrap ((L:Int)-(n:Int))=(L:Int)-(n:Int):=IntWalk.i64_in _ (by omega);have y2:IntKind.i64.wrap ((L:Int)-(n:Int)+(k:Int))=(L:Int)-(n:Int)+(k:Int):=IntWalk.i64_in _ (by omega);have y3:IntKind.i64.wrap ((L:Int)-(n:Int)+(k:Int)-(q:Int))=(L:Int)-(n:Int)+(k:Int)-(q:Int):=IntWalk.i64_in _ (by omega)
        have hv:((ol+(k-q):Nat):Int)=(L:Int)-(n:Int)+(k:Int)-(q:Int):=by omega
        have HS:=hd' (HRMK.out.set k (ol+(k-q)));rw[hv]at HS;clear HRMK hv;go_wp2_with fail;go_roundw
        case rel=>
         refine⟨k+1,by omega,by omega,by go_num,HS.out.congr (fun j _=> ?_)⟩
         by_cases e:j=k
         ·subst e;rw[if_pos rfl,if_pos (by omega)]
         ·rw[if_neg e]
          by_cases h:q≤j∧j<k
          ·rw[if_pos h,if_pos (by omega)]
          ·rw[if_neg h,if_neg (c:=q≤j∧j<k+1) (by omega)]
        case measure=>simp[intOf];omega
       ·obtain rfl:k=q+n:=by omega
        rw[show((q+n:Nat):Int)=(q:Int)+(n:Int) by omega];clear hk1 hk2 hlt2;go_wp2_with fail
        go_roundg (len-(q+n))
        case measure=>omega
        case rel=>
         refine⟨q+n,ao7,cp7,out++l,B.plNew q n ol false pl,fun j=>if q≤j∧j<q+n then ol+(j-q)else if q≤j∧j<q+n then ol else f j,by omega,by go_num,by rw[List.length_append,HOL.out,HLL.out,HLE.out], ?_, ?_,HRMK.out⟩
         ·have:=B.Told.step HFZ.out HT.out
          rw[HOL.out]at this;exact this
         ·intro k hk
          show(if q≤k∧k<q+n then ol+(k-q)else if q≤k∧k<q+n then ol else f k)=_
          by_cases h:q≤k
          ·rw[if_pos ⟨h,hk⟩,B.plNew_in h hk,if_neg (by simp)]
          ·rw[if_neg (by omega),if_neg (by omega),B.plNew_out (by omega)]
           exact HF.out k (by omega)
  ·obtain rfl:q=len:=by omega
   have hlen:=HP.out.len;obtain⟨pl',hpl⟩:∃pl',B.plEnd q out.length pl=pl':=⟨_,rfl⟩
   have HPASS:Hid (B.fixTo ps pl' out ps.length=B.fuse ps):=by
    rw[←hpl,B.fixTo_all,hlen];refine hd' (B.fuse_pass HM.out.ok ?_);rw[←hlen];exact HFZ.out
   have HPLT:Hid (∀k,k<q→pl' k<out.length):=by
    refine hd' (fun k hk=> ?_);rw[←hpl,B.plEnd_lt hk];exact HFZ.out.lt k hk
   have cP:=CellsAt.cell HRM.out.place (j:=q) (by omega);have fP:=CellsAt.free HRM.out.place q
   have HRS:Hid (RunM ps q b1 b2 P ao c out pl' w (wr.setCell ⟨P,q,none⟩ (.int .i64 (out.length:Int)))):=by
    refine hd' ((HRM.out.set q out.length).congr (fun k hk=> ?_));rw[←hpl]
    by_cases e:k=q
    ·subst e;rw[if_pos rfl,B.plEnd_end]
    ·rw[if_neg e,B.plEnd_lt (by omega)]
     exact HF.out k (by omega)
   have HPLE:Hid (pl' q=out.length):=by rw[←hpl];exact hd' B.plEnd_end
   have k1:(q:Int)<(q:Int)+1:=by omega
   have k0:(0:Int)≤(q:Int):=by omega
   have hol:out.length≤16384:=by omega
   obtain⟨ol,hole⟩:∃ol,out.length=ol:=⟨_,rfl⟩;rw[hole]at hol HPLT HPLE HRS⊢;have HOL:=hd' hole;have HLEN:=hd' hlen;clear hole hpl HRM HFZ HF hlt hg hlen hshort;go_wp2_with fail;obtain⟨wo,hwo⟩:∃wo:World,wo=wr:=⟨_,rfl⟩;subst hwo
   go_loopw [106] (fun v wy=>∃k:Nat,v= .int .i64 k∧k≤q∧RunM ps q b1 b2 P ao c (B.fixTo ps pl' out k) pl' w wy) (fun v _=>q-(intOf v).toNat)
   case atStart=>exact⟨0,rfl,Nat.zero_le _,HRS.out⟩
   case round=>
    obtain⟨k,rfl,hk,hrm⟩:=hrel;have HRK:=hd' hrm;have hsz:=hrm.bel.size;clear hrm HRS cP fP k0 k1
    by_cases hlt:k<q
    ·have hx:ps[k]? =some (ps[k]'(by have:=HP.out.len;omega)):=List.getElem?_eq_getElem _
     generalize ps[k]'(by have:=HP.out.len;omega)=x at hx;have HX:=hd' hx;obtain⟨b,off,rfl,hbl,hat⟩:=HP.out.at_ k x hx;obtain⟨h0,h1,h2,h3,h4⟩:=hat.below HRK.out.bel hbl
     have hbw:b<wr.heap.size:=by omega
     have hrb:=B.right_bounds (HRIGHT.out x (List.mem_of_getElem? hx));obtain⟨N,hN⟩:∃N:Nat,x.n=N:=⟨x.n.toNat,by omega⟩
     have hN14:N≤16384:=by omega
     have HN:=hd' hN
     have k0:(0:Int)≤(k:Int):=by omega
     have k1:(k:Int)<(q:Int):=by omega
     obtain⟨wx,hwx⟩:∃wx,wr.alloc (.cells #[.int .i64 x.op,.int .i64 x.a,.int .i64 x.b,.int .i64 x.n,.int .u64 x.imm] 25)=wx:=⟨_,rfl⟩
     have HXX:Hid (InsAt wx wr.heap.size 0 x):=by rw[←hwx];exact hd' (insAt_new x wr)
     have HRX:Hid (RunM ps q b1 b2 P ao c (B.fixTo ps pl' out k) pl' w wx):=by rw[←hwx];exact hd' (HRK.out.below ((Below.refl _ _).alloc (lR' _) _))
     have lX:wr.heap.size<wx.heap.size:=by rw[←hwx];simp
     clear hx hat hrb hN
     go_upto_region 26 with fail
     clear hwx h0 h1 h2 h3 h4 hbw;generalize hX:wr.heap.size=X at*;clear hX;have c0:=HXX.out.c0;have c1:=HXX.out.c1;have c2:=HXX.out.c2;have c3:=HXX.out.c3;have c4:=HXX.out.c4;go_wp2_with fail;refine(fskips_any x wx).mono ?_;rintro e w2 ⟨rfl,hb2⟩;have HR2:=hd' (HRX.out.below hb2);have HX2:Hid (InsAt w2 X 0 x):=hd' (HXX.out.below hb2 lX);clear hb2 c0 c1 c2 c3 c4 HXX HRX HRK
     cases hs:x.skips with
     | false=>
      have HFX:=hd' (B.fixTo_same (pl:=pl') (out:=out) HX.out hs);clear hs;go_wp2_with fail;go_roundw
      case rel=>exact⟨k+1,by go_num,by omega,by rw[HFX.out];exact HR2.out⟩
      case measure=>simp[intOf];omega
     | true=>
      have hgl:k+1+N≤q:=by have:=goal_le HM.out.ok HX.out (by unfold B.Ins.skips at hs;simpa using hs) HN.out;have:=HP.out.len;omega
      have HFX:=hd' (B.fixTo_skip (pl:=pl') (out:=out) HX.out hs);rw[HN.out,show((N:Int)).toNat=N by omega]at HFX
      have hflen:(B.fixTo ps pl' out k).length=ol:=by rw[B.fixTo_length];exact HOL.out
      obtain⟨y,hy⟩:∃y,(B.fixTo ps pl' out k)[pl' k]? =some y:=⟨(B.fixTo ps pl' out k)[pl' k]'(by rw[hflen];exact HPLT.out k hlt),List.getElem?_eq_getElem _⟩;obtain⟨g,rfl,_,hglt,hyat⟩:=HR2.out.own.insAt hy;have p1:=CellsAt.cell HR2.out.place (j:=k) (by omega);have p2:=CellsAt.cell HR2.out.place (j:=k+1+N) (by omega);have d3:=hyat.c3;have hpk:pl' k<ol:=HPLT.out k hlt
      have hpe:pl' (k+1+N)≤ol:=by
       by_cases e:k+1+N=q
       ·rw[e,HPLE.out];exact lR' _
       ·exact Nat.le_of_lt (HPLT.out _ (by omega))
      have fg:w2.frozen? ⟨g,pl' k*5+3,none⟩=false:=World.ownsRow.frozenAt HR2.out.own.own _;have c3:=HX2.out.c3;rw[HN.out]at c3;obtain⟨pk,hpke⟩:∃pk,pl' k=pk:=⟨_,rfl⟩;obtain⟨pe,hpee⟩:∃pe,pl' (k+1+N)=pe:=⟨_,rfl⟩
      have HSN:Hid (RunM ps q b1 b2 P (some ⟨g,0,none⟩) c (B.fixTo ps pl' out (k+1)) pl' w (w2.setCell ⟨g,pk*5+3,none⟩ (.int .i64 ((pe:Int)-(pk:Int)-1)))):=by
       have h1:=ownP_setN HR2.out.own (pl' k) ((pl' (k+1+N):Int)-(pl' k:Int)-1) (by rw[hflen];exact hpk)
       have hne:∀ {t:TypeId} {b m:Nat} {f:Nat→Value},CellsAt w2 b t m f→25≠t→b≠g:=by
        intro t b m f h ht e;exact ownP_ne HR2.out.own h ht (by rw[e];rfl)
       rw[HFX.out,←hpke,←hpee];refine hd' ⟨?_,CellsAt.other HR2.out.place _ _ (hne HR2.out.place (by decide)),CellsAt.other HR2.out.ats _ _ (hne HR2.out.ats (by decide)),CellsAt.other HR2.out.rds _ _ (hne HR2.out.rds (by decide)),HR2.out.bel.setCell ((HR2.out.own.own.lt g rfl).1) _,HR2.out.lP⟩;rw[B.setN_length];exact h1
      rw[hpke]at p1 d3 hpk fg;rw[hpee]at p2 hpe;have s1:IntKind.i64.wrap ((k:Int)+1)=(k:Int)+1:=IntWalk.i64_in _ (by omega);have s2:IntKind.i64.wrap ((k:Int)+1+(N:Int))=(k:Int)+1+(N:Int):=IntWalk.i64_in _ (by omega);have s3:IntKind.i64.wrap ((pe:Int)-(pk:Int))=(pe:Int)-(pk:Int):=IntWalk.i64_in _ (by omega);have s4:IntKind.i64.wrap ((pe:Int)-(pk:Int)-1)=(pe:Int)-(pk:Int)-1:=IntWalk.i64_in _ (by omega)
      have j1:(k:Int)<(q:Int)+1:=by omega
      have j2:(0:Int)≤(k:Int)+1+(N:Int):=by omega
      have j3:(k:Int)+1+(N:Int)<(q:Int)+1:=by omega
      have j4:((k:Int)+1+(N:Int)).toNat=k+1+N:=by omega
      have j5:(0:Int)≤(pk:Int):=by omega
      have j6:(pk:Int)<(ol:Int):=by omega
      clear hs hy hyat HR2 hpke hpee hglt hflen
      go_upto_region 27 with fail
      go_still_tail 21,(by kernel_rfl)
      go_wp2_with fail;go_roundw
      case rel=>first | exact⟨k+1,by go_num,by omega,HSN.out⟩ | exact⟨k+1,by go_num,by omega,HSN.out.below (Below.refl _ _).drew⟩
      case measure=>simp[intOf];omega
    ·obtain rfl:k=q:=by omega
     have HFL:Hid (B.fixTo ps pl' out k=B.fuse ps):=by have:=HPASS.out;rw[←HLEN.out]at this;exact hd' this
     clear hlt hk;go_wp2_with fail;go_ret2;have h1:=HRK.out.own;rw[HFL.out]at h1
     have h2:ol=(B.fuse ps).length:=by rw[←HFL.out,B.fixTo_length];exact HOL.out.symm
     exact⟨ao,c,by rw[←h2];rfl,h1,HRK.out.bel⟩
end Code
end Go.Proofs.YtpibampaobncaaaGreatDoor
