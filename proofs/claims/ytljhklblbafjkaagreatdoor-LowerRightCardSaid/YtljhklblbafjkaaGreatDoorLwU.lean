/- Package bits: sets of sixty-four truths: made of a list, what is in one or the other, what is in both. -/
import Derived.Test.YtljhklblbafjkaaGreatDoorRowQ
import Derived.Laws.ResultCell
import Derived.Deep.Cut
import Derived.Deep.DeepCutAuto
import Derived.Deep.CutBlock
import Derived.StillTailTactics
import Derived.RegionTactic
import Derived.Deep.DrawnRows
import Derived.Test.YtljhklblbafjkaaGreatDoorBaseQ
import Derived.Test.YtljhklblbafjkaaGreatDoorLoQ
import Derived.Test.YtljhklblbafjkaaGreatDoorChQ
import Derived.Shelf.Slices.Cells
import Derived.Shelf.LaysM
import Derived.Maps.OwnSet
import Derived.Deep.RegionHeld
open Go.Lib renaming hid→hd'
open Nat renaming le_refl→lR'
namespace Go.Proofs.YtljhklblbafjkaaGreatDoor
open Go.RowKit
namespace Code
attribute [local go_sem ↓] Go.wp_at_zero Go.wp_at_succ
def setC(f:Nat→Bool):Array Value:=((List.range 64).map fun j=>Value.bool (f j)).toArray
def noSet:Array Value:= #[.bool false,.bool false,.bool false,.bool false,.bool false,.bool false,.bool false,.bool false,.bool false,.bool false,.bool false,.bool false,.bool false,.bool false,.bool false,.bool false,.bool false,.bool false,.bool false,.bool false,.bool false,.bool false,.bool false,.bool false,.bool false,.bool false,.bool false,.bool false,.bool false,.bool false,.bool false,.bool false,.bool false,.bool false,.bool false,.bool false,.bool false,.bool false,.bool false,.bool false,.bool false,.bool false,.bool false,.bool false,.bool false,.bool false,.bool false,.bool false,.bool false,.bool false,.bool false,.bool false,.bool false,.bool false,.bool false,.bool false,.bool false,.bool false,.bool false,.bool false,.bool false,.bool false,.bool false,.bool false]
theorem setC_size(f:Nat→Bool):(setC f).size=64:=by simp[setC]
theorem setC_get(f:Nat→Bool)(j:Nat)(h:j<64):(setC f)[j]? =some (.bool (f j)):=by
 simp[setC,h]
theorem setC_no:noSet=setC fun _=>false:=by unfold noSet setC;rfl
theorem setC_congr{f g:Nat→Bool}(h:∀j,j<64→f j=g j):setC f=setC g:=by
 unfold setC;congr 1
 refine List.map_congr_left fun j hj=> ?_
 rw[h j (List.mem_range.1 hj)]
theorem setC_ones(f:Nat→Bool):(setC f).all (·.oneCell')=true:=by simp[setC,Value.oneCell']
theorem info136:(Tryz.prog.info? 136).map (·.size)=some 64:=by kernel_rfl
abbrev SetAt(w:World)(b:Nat)(f:Nat→Bool):Prop:=CellsAt w b 136 64 (fun j=>.bool (f j))
theorem SetAt.new(f:Nat→Bool)(w:World):SetAt (w.alloc (.cells (setC f) 136)) w.heap.size f:=by
 have:=CellsAt.new (setC f) 136 w (fun j=>.bool (f j)) (fun j hj=>setC_get f j (by rw[setC_size]at hj;exact hj));rw[setC_size]at this;exact this
theorem SetAt.range{w:World}{b:Nat}{f:Nat→Bool}(h:SetAt w b f):w.rangeAt b 0 (setC f).toList:=by
 refine CellsAt.range h (by simp[setC_size]) (fun j v hj=> ?_);rw[Array.getElem?_toList]at hj
 have hlt:j<64:=by have:=(Array.getElem?_eq_some_iff.1 hj).1;rw[setC_size]at this;exact this
 rw[setC_get f j hlt]at hj;rw[Nat.zero_add];exact Option.some.inj hj
theorem SetAt.store{w:World}{b:Nat}{f:Nat→Bool}(h:SetAt w b f)(g:Nat→Bool):SetAt (w.setCells b 0 (setC g).toList) b g:=by
 refine CellsAt.congr (CellsAt.setCells (setC g).toList 0 h) (fun j hj=> ?_)
 have e:(setC g).toList.getD j undef= .bool (g j):=by rw[List.getD_eq_getElem?_getD,Array.getElem?_toList,setC_get g j hj];rfl
 rw[if_pos (by simp[setC_size];omega),Nat.sub_zero,e]
theorem SetAt.put{w:World}{b:Nat}{f:Nat→Bool}(h:SetAt w b f)(k:Nat)(v:Bool):SetAt (w.setCell ⟨b,k,none⟩ (.bool v)) b (fun j=>if j=k then v else f j):=
 CellsAt.congr (CellsAt.set h k (.bool v)) (fun j _=>by
  show(if j=k then Value.bool v else .bool (f j))= .bool (if j=k then v else f j)
  split<;>rfl)
theorem SetAt.there{w:World}{b:Nat}{f:Nat→Bool}(h:SetAt w b f):w.there b 0 64:=CellsAt.there h (by omega)
theorem there_alloc(w:World)(C:Array Value)(T:TypeId){n:Nat}(hn:C.size=n):(w.alloc (.cells C T)).there w.heap.size 0 n:=by
 subst hn;exact CellsAt.there (CellsAt.new C T w (fun j=>C.getD j undef) (fun j hj=>by rw[Array.getElem?_eq_getElem hj,Array.getD_eq_getD_getElem?,Array.getElem?_eq_getElem hj];rfl)) (by omega)
theorem SetAt.over(w:World)(C:Array Value)(hn:C.size=64)(g:Nat→Bool):SetAt ((w.alloc (.cells C 136)).setCells w.heap.size 0 (setC g).toList) w.heap.size g:=by
 have h:=CellsAt.new C 136 w (fun j=>C.getD j undef) (fun j hj=>by rw[Array.getElem?_eq_getElem hj,Array.getD_eq_getD_getElem?,Array.getElem?_eq_getElem hj];rfl);rw[hn]at h;refine CellsAt.congr (CellsAt.setCells (setC g).toList 0 h) (fun j hj=> ?_)
 have e:(setC g).toList.getD j undef= .bool (g j):=by rw[List.getD_eq_getElem?_getD,Array.getElem?_toList,setC_get g j hj];rfl
 rw[if_pos (by simp[setC_size];omega),Nat.sub_zero,e]
theorem run_index64(g:Nat→Bool)(k:Nat)(h:k<64)(w:World):(Instr.index 136 (.agg (setC g)) (.int .i64 k)).run Tryz.prog w= .ok (.bool (g k)) w:=by
 have hg:=setC_get g k h;have hs:=setC_size g
 have h0:0≤(k:Int)∧(k:Int)<64:=by omega
 have hk:k<(setC g).size:=by rw[hs];exact h
 have he:(setC g)[k]= .bool (g k):=by rw[Array.getElem?_eq_getElem hk]at hg;exact Option.some.inj hg
 simp[Instr.index,run_underlying Tryz.underlying136,asIntOf,h0,hg,hk,he,h,go_sem]
structure UnionAt(f g:Nat→Bool)(k:Nat)(w wr:World):Prop where
 a:SetAt wr w.heap.size (fun r=>if r<k then f r||g r else f r)
 out:SetAt wr (w.heap.size+1+1) (fun _=>false)
 bel:Below w.heap.size w wr
theorem UnionAt.next{f g:Nat→Bool}{k:Nat}{w wr:World}(h:UnionAt f g k w wr):UnionAt f g (k+1) w (wr.setCell ⟨w.heap.size,k,none⟩ (.bool (f k||g k))):=by
 refine⟨(SetAt.put h.a k (f k||g k)).congr (fun j _=> ?_),CellsAt.other h.out _ _ (by simp;omega),h.bel.setCell (lR' _) _⟩;congr 1
 dsimp only
 by_cases e:j=k
 ·subst e;rw[if_pos rfl,if_pos (by omega)]
 ·rw[if_neg e]
  by_cases h1:j<k
  ·rw[if_pos h1,if_pos (by omega)]
  ·rw[if_neg h1,if_neg (by omega)]
def UnionOut(f:Nat→Bool)(w:World)(e:Ending)(w':World):Prop:=e= .returned (.agg (setC f))∧Below w.heap.size w w'
set_option maxRecDepth 100000 in
set_option maxHeartbeats 3200000 in
theorem union_any(f g:Nat→Bool)(w:World):Calls Tryz.prog 82 #[.agg (setC f),.agg (setC g)] w (UnionOut (fun r=>f r||g r) w):=by
 have hO:UnionAt f g 0 w (((w.alloc (.cells (setC f) 136)).alloc (.cells (setC g) 136)).alloc (.cells (setC fun _=>false) 136)):=by
  refine⟨CellsAt.congr (((SetAt.new f w).alloc _).alloc _) (fun j _=>by dsimp only;rw[if_neg (by omega)]), ?_,(((Below.refl _ _).alloc (lR' _) _).alloc (by simp) _).alloc (by simp;omega) _⟩;have:=SetAt.new (fun _=>false) ((w.alloc (.cells (setC f) 136)).alloc (.cells (setC g) 136));simpa using this
 have hb:SetAt (((w.alloc (.cells (setC f) 136)).alloc (.cells (setC g) 136)).alloc (.cells (setC fun _=>false) 136)) (w.heap.size+1) g:=by
  have:=CellsAt.alloc (SetAt.new g (w.alloc (.cells (setC f) 136))) (.cells (setC fun _=>false) 136);simpa using this
 obtain⟨w1,hw1⟩:∃w1,((w.alloc (.cells (setC f) 136)).alloc (.cells (setC g) 136)).alloc (.cells (setC fun _=>false) 136)=w1:=⟨_,rfl⟩;rw[hw1]at hO hb;have HO:=hd' hO;have hrr:=SetAt.range hb;rw[←setC_no]at hw1;unfold noSet at hw1;clear hO hb;go_enter Tryz.func82,Tryz.ntmps82
 go_upto_region 1 with fail
 try rw[hw1]
 clear hw1;go_wp2_with (refine wpList_load_mid (by rfl) 136 _ (by rfl) (w.heap.size+1) 0 (by rfl) (setC g).toList _ hrr Tryz.underlying136 (by rfl) (by rw[info136];simp[setC_size]) ?_);clear hrr
 go_loopw [8] (fun i wr=>∃k:Nat,k≤64∧i= .int .i64 k∧UnionAt f g k w wr) (fun i _=>64-(intOf i).toNat)
 case atStart=>exact⟨0,by omega,rfl,HO.out⟩
 case round=>
  obtain⟨k,hk,rfl,hc⟩:=hrel;have HC:=hd' hc;clear HO
  by_cases hlt:k<64
  ·have c0:wr.cell? ⟨w.heap.size,k,none⟩=some (.bool (f k)):=by simpa using CellsAt.cell hc.a hlt
   have f0:=CellsAt.free hc.a k;have HN:=hd' hc.next
   have k0:(0:Int)≤(k:Int):=by omega
   have k1:(k:Int)<64:=by omega
   have hix:=run_index64 g k hlt wr;clear hc
   cases hf:f k with
   | true=>
    rw[hf]at c0 HN;clear hf;go_wp2_with fail;go_roundw
    case rel=>exact⟨k+1,by omega,by go_num,by simpa using HN.out⟩
    case measure=>simp[intOf];omega
   | false=>
    rw[hf]at c0 HN;clear hf;go_wp2_with fail;go_roundw
    case rel=>exact⟨k+1,by omega,by go_num,by simpa using HN.out⟩
    case measure=>simp[intOf];omega
  ·obtain rfl:k=64:=by omega
   have hr:=HC.out.a.range;have ht:wr.there (w.heap.size+1+1) 0 64:=SetAt.there HC.out.out;have HS:Hid (SetAt (wr.setCells (w.heap.size+1+1) 0 (setC fun r=>f r||g r).toList) (w.heap.size+1+1) (fun r=>f r||g r)):=SetAt.store HC.out.out _;have HB:Hid (Below w.heap.size w (wr.setCells (w.heap.size+1+1) 0 (setC fun r=>f r||g r).toList)):=HC.out.bel.grown (grownBy_setCells _ _ _ _) (by have:=HC.out.bel.size;omega) (fun k hk=>by simp at hk;omega);have he:setC (fun r=>if r<64 then f r||g r else f r)=setC (fun r=>f r||g r):=setC_congr (fun k hk=>by rw[if_pos hk]);rw[he]at hr;clear hc he;generalize hv:(fun r=>f r||g r)=v at*;have HR:=hd' hr;have HT:=hd' ht;have HV:=hd' hv;clear hr ht hv
   go_wp2_with (first
    | refine wpList_load_mid (by rfl) 136 _ (by rfl) w.heap.size 0 (by rfl) (setC v).toList _ HR.out Tryz.underlying136 (by rfl) (by rw[info136];simp[setC_size]) ?_
    | refine wpList_store_mid (by rfl) 136 _ _ (by rfl) (w.heap.size+1+1) 0 (setC v) (by rfl) (by rfl) (by rw[setC_size];exact HT.out) (by rw[info136];simp[setC_size]) (setC_ones _) ?_)
   refine bodyPost_ret (v:=.agg (setC v)) ?_ rfl ?_
   rotate_left
   ·exact⟨by rw[HV.out],HB.out⟩
   have hload:=run_loadVar_mid (P:=Tryz.prog) _ (w.heap.size+1+1) 0 136 (setC v).toList _ HS.out.range Tryz.underlying136 rfl (by rw[info136];simp[setC_size]);exact results_cell Tryz.results82 (by rfl) hload
structure MeetAt(f g:Nat→Bool)(k:Nat)(w wr:World):Prop where
 a:SetAt wr w.heap.size (fun r=>if r<k then f r&&g r else f r)
 out:SetAt wr (w.heap.size+1+1) (fun _=>false)
 bel:Below w.heap.size w wr
theorem MeetAt.next{f g:Nat→Bool}{k:Nat}{w wr:World}(h:MeetAt f g k w wr):MeetAt f g (k+1) w (wr.setCell ⟨w.heap.size,k,none⟩ (.bool (f k&&g k))):=by
 refine⟨(SetAt.put h.a k (f k&&g k)).congr (fun j _=> ?_),CellsAt.other h.out _ _ (by simp;omega),h.bel.setCell (lR' _) _⟩;congr 1
 dsimp only
 by_cases e:j=k
 ·subst e;rw[if_pos rfl,if_pos (by omega)]
 ·rw[if_neg e]
  by_cases h1:j<k
  ·rw[if_pos h1,if_pos (by omega)]
  ·rw[if_neg h1,if_neg (by omega)]
def MeetOut(f:Nat→Bool)(w:World)(e:Ending)(w':World):Prop:=e= .returned (.agg (setC f))∧Below w.heap.size w w'
set_option maxRecDepth 100000 in
set_option maxHeartbeats 3200000 in
theorem meet_any(f g:Nat→Bool)(w:World):Calls Tryz.prog 83 #[.agg (setC f),.agg (setC g)] w (MeetOut (fun r=>f r&&g r) w):=by
 have hO:MeetAt f g 0 w (((w.alloc (.cells (setC f) 136)).alloc (.cells (setC g) 136)).alloc (.cells (setC fun _=>false) 136)):=by
  refine⟨CellsAt.congr (((SetAt.new f w).alloc _).alloc _) (fun j _=>by dsimp only;rw[if_neg (by omega)]), ?_,(((Below.refl _ _).alloc (lR' _) _).alloc (by simp) _).alloc (by simp;omega) _⟩;have:=SetAt.new (fun _=>false) ((w.alloc (.cells (setC f) 136)).alloc (.cells (setC g) 136));simpa using this
 have hb:SetAt (((w.alloc (.cells (setC f) 136)).alloc (.cells (setC g) 136)).alloc (.cells (setC fun _=>false) 136)) (w.heap.size+1) g:=by
  have:=CellsAt.alloc (SetAt.new g (w.alloc (.cells (setC f) 136))) (.cells (setC fun _=>false) 136);simpa using this
 obtain⟨w1,hw1⟩:∃w1,((w.alloc (.cells (setC f) 136)).alloc (.cells (setC g) 136)).alloc (.cells (setC fun _=>false) 136)=w1:=⟨_,rfl⟩;rw[hw1]at hO hb;have HO:=hd' hO;have hrr:=SetAt.range hb;rw[←setC_no]at hw1;unfold noSet at hw1;clear hO hb;go_enter Tryz.func83,Tryz.ntmps83
 go_upto_region 1 with fail
 try rw[hw1]
 clear hw1;go_wp2_with (refine wpList_load_mid (by rfl) 136 _ (by rfl) (w.heap.size+1) 0 (by rfl) (setC g).toList _ hrr Tryz.underlying136 (by rfl) (by rw[info136];simp[setC_size]) ?_);clear hrr
 go_loopw [8] (fun i wr=>∃k:Nat,k≤64∧i= .int .i64 k∧MeetAt f g k w wr) (fun i _=>64-(intOf i).toNat)
 case atStart=>exact⟨0,by omega,rfl,HO.out⟩
 case round=>
  obtain⟨k,hk,rfl,hc⟩:=hrel;have HC:=hd' hc;clear HO
  by_cases hlt:k<64
  ·have c0:wr.cell? ⟨w.heap.size,k,none⟩=some (.bool (f k)):=by simpa using CellsAt.cell hc.a hlt
   have f0:=CellsAt.free hc.a k;have HN:=hd' hc.next
   have k0:(0:Int)≤(k:Int):=by omega
   have k1:(k:Int)<64:=by omega
   have hix:=run_index64 g k hlt wr;clear hc
   cases hf:f k with
   | true=>
    rw[hf]at c0 HN;clear hf;go_wp2_with fail;go_roundw
    case rel=>exact⟨k+1,by omega,by go_num,by simpa using HN.out⟩
    case measure=>simp[intOf];omega
   | false=>
    rw[hf]at c0 HN;clear hf;go_wp2_with fail;go_roundw
    case rel=>exact⟨k+1,by omega,by go_num,by simpa using HN.out⟩
    case measure=>simp[intOf];omega
  ·obtain rfl:k=64:=by omega
   have hr:=HC.out.a.range;have ht:wr.there (w.heap.size+1+1) 0 64:=SetAt.there HC.out.out;have HS:Hid (SetAt (wr.setCells (w.heap.size+1+1) 0 (setC fun r=>f r&&g r).toList) (w.heap.size+1+1) (fun r=>f r&&g r)):=SetAt.store HC.out.out _;have HB:Hid (Below w.heap.size w (wr.setCells (w.heap.size+1+1) 0 (setC fun r=>f r&&g r).toList)):=HC.out.bel.grown (grownBy_setCells _ _ _ _) (by have:=HC.out.bel.size;omega) (fun k hk=>by simp at hk;omega);have he:setC (fun r=>if r<64 then f r&&g r else f r)=setC (fun r=>f r&&g r):=setC_congr (fun k hk=>by rw[if_pos hk]);rw[he]at hr;clear hc he;generalize hv:(fun r=>f r&&g r)=v at*;have HR:=hd' hr;have HT:=hd' ht;have HV:=hd' hv;clear hr ht hv
   go_wp2_with (first
    | refine wpList_load_mid (by rfl) 136 _ (by rfl) w.heap.size 0 (by rfl) (setC v).toList _ HR.out Tryz.underlying136 (by rfl) (by rw[info136];simp[setC_size]) ?_
    | refine wpList_store_mid (by rfl) 136 _ _ (by rfl) (w.heap.size+1+1) 0 (setC v) (by rfl) (by rfl) (by rw[setC_size];exact HT.out) (by rw[info136];simp[setC_size]) (setC_ones _) ?_)
   refine bodyPost_ret (v:=.agg (setC v)) ?_ rfl ?_
   rotate_left
   ·exact⟨by rw[HV.out],HB.out⟩
   have hload:=run_loadVar_mid (P:=Tryz.prog) _ (w.heap.size+1+1) 0 136 (setC v).toList _ HS.out.range Tryz.underlying136 rfl (by rw[info136];simp[setC_size]);exact results_cell Tryz.results83 (by rfl) hload
theorem ret_set{fn:Func}{p u:Nat}(hr:fn.results= #[.cell p 136,.tmp u]){tmps:Array Value}{wz:World}{R:Nat}{f:Nat→Bool}{v:Value}(hp:tmps.getD p undef= .pointer (some ⟨R,0,none⟩))(hu:tmps.getD u undef=v)(hm:SetAt wz R f):
    (results fn tmps).run Tryz.prog wz= .ok (.tuple #[.agg (setC f),v]) wz:=by
 rw[results_cell_tmp hr,hp,hu];have hload:=run_loadVar_mid (P:=Tryz.prog) wz R 0 136 (setC f).toList _ (SetAt.range hm) Tryz.underlying136 rfl (by rw[info136];simp[setC_size]);simp only[asAddr,Sem.run_pure,Result.andThen];rw[hload]
end Code
end Go.Proofs.YtljhklblbafjkaaGreatDoor
namespace Go.Proofs.YtljhklblbafjkaaGreatDoor
open Go.RowKit
namespace Code
attribute [local go_sem ↓] Go.wp_at_zero Go.wp_at_succ
def natV(b:Nat):Value:=.int .i64 (b:Int)
structure SofAt(bs:List Nat)(k:Nat)(w wr:World):Prop where
 res:SetAt wr w.heap.size (fun _=>false)
 set:SetAt wr (w.heap.size+1) (fun j=>decide (j∈bs.take k))
 bel:Below w.heap.size w wr
theorem SofAt.next{bs:List Nat}{k b:Nat}{w wr:World}(h:SofAt bs k w wr)(hb:bs[k]? =some b):SofAt bs (k+1) w (wr.setCell ⟨w.heap.size+1,b,none⟩ (.bool true)):=by
 refine⟨CellsAt.other h.res _ _ (by simp),(SetAt.put h.set b true).congr (fun j _=> ?_),h.bel.setCell (by simp) _⟩;congr 1
 dsimp only
 rw[List.take_add_one,hb]
 by_cases e:j=b
 ·rw[if_pos e,e];simp
 ·rw[if_neg e];simp[e]
def SetOut(f:Nat→Bool)(w:World)(e:Ending)(w':World):Prop:=e= .returned (.tuple #[.agg (setC f),.nilIface])∧Below w.heap.size w w'
set_option maxRecDepth 100000 in
set_option maxHeartbeats 3200000 in
theorem setOf_any(a:Option Addr)(n cap:Nat)(bs:List Nat)(w:World)(hl:ListAt w a n (bs.map natV))(hb:∀b∈bs,b≤63)(hd:bs.Nodup)(hn:n≤9223372036854775807):
    Calls Tryz.prog 119 #[.slice a n cap] w (SetOut (fun j=>decide (j∈bs)) w):=by
 have hlen:=hl.len;rw[List.length_map]at hlen
 have hO:SofAt bs 0 w ((w.alloc (.cells (setC fun _=>false) 136)).alloc (.cells (setC fun _=>false) 136)):=by
  refine⟨(SetAt.new _ w).alloc _, ?_,((Below.refl _ _).alloc (lR' _) _).alloc (by simp) _⟩;have:=SetAt.new (fun _=>false) (w.alloc (.cells (setC fun _=>false) 136));rw[World.size_alloc]at this;exact CellsAt.congr this (fun j _=>by simp)
 obtain⟨w1,hw1⟩:∃w1,(w.alloc (.cells (setC fun _=>false) 136)).alloc (.cells (setC fun _=>false) 136)=w1:=⟨_,rfl⟩;rw[hw1]at hO;have HO:=hd' hO;have HL:=hd' hl;have HLE:=hd' hlen;have HB:=hd' hb;have HD:=hd' hd;rw[←setC_no]at hw1;unfold noSet at hw1;clear hO hl hlen hb hd;go_enter Tryz.func119,Tryz.ntmps119
 go_upto_region 2 with fail
 try rw[hw1]
 clear hw1;go_wp2_with fail
 go_loopw [9] (fun i wr=>∃k:Nat,k≤n∧i= .int .i64 k∧SofAt bs k w wr) (fun i _=>n-(intOf i).toNat)
 case atStart=>exact⟨0,by omega,rfl,HO.out⟩
 case round=>
  obtain⟨k,hk,rfl,hc⟩:=hrel;have HC:=hd' hc;clear HO hc
  by_cases hlt:k<n
  ·have hx:bs[k]? =some (bs[k]'(by have:=HLE.out;omega)):=List.getElem?_eq_getElem _
   generalize bs[k]'(by have:=HLE.out;omega)=b at hx;obtain⟨b1,o1,rfl,hl1,hc1⟩:=HL.out.at_ k (natV b) (by rw[List.getElem?_map,hx];rfl);replace hc1:=(HC.out.bel.cell (p:=⟨b1,o1+k,none⟩) hl1).trans hc1;unfold natV at hc1;have hb63:b≤63:=HB.out b (List.mem_of_getElem? hx)
   have hnew:b∉bs.take k:=fun hm=>by
    obtain⟨i,hi⟩:=List.getElem?_of_mem hm
    have hik:i<k:=by have:=(List.getElem?_eq_some_iff.1 hi).1;simp at this;omega
    rw[List.getElem?_take,if_pos hik]at hi;have h1:=(List.getElem?_eq_some_iff.1 hi).1;exact List.pairwise_iff_getElem.1 HD.out i k h1 (by have:=(List.getElem?_eq_some_iff.1 hx).1;exact this) hik (by rw[(List.getElem?_eq_some_iff.1 hi).2,(List.getElem?_eq_some_iff.1 hx).2])
   have c0:wr.cell? ⟨w.heap.size+1,b,none⟩=some (.bool false):=by
    have:=CellsAt.cell HC.out.set (j:=b) (by omega);rw[this];simp[hnew]
   have f0:=CellsAt.free HC.out.set b;have HN:=hd' (HC.out.next hx)
   have e1:((b:Int)<0)=False:=by simp
   have e2:(64≤(b:Int))=False:=by simp;omega
   have e3:(0:Int)≤(b:Int):=by omega
   have e4:(b:Int)<64:=by omega
   clear hx hnew hl1;go_wp2_with fail;go_roundw
   case rel=>exact⟨k+1,by omega,by go_num,HN.out⟩
   case measure=>simp[intOf];omega
  ·obtain rfl:k=n:=by omega
   have hr:=SetAt.range HC.out.set;have ht:wr.there w.heap.size 0 64:=SetAt.there HC.out.res;obtain⟨v,hv⟩:∃v,(fun j=>decide (j∈bs.take k))=v:=⟨_,rfl⟩
   have hvv:v=fun j=>decide (j∈bs):=by
    rw[←hv,List.take_of_length_le (by have:=HLE.out;omega)]
   have HS:Hid (SetAt (wr.setCells w.heap.size 0 (setC v).toList) w.heap.size v):=hd' (SetAt.store HC.out.res _);have HBB:Hid (Below w.heap.size w (wr.setCells w.heap.size 0 (setC v).toList)):=hd' (HC.out.bel.grown (grownBy_setCells _ _ _ _) (by have:=HC.out.bel.size;omega) (fun k hk=>by simp at hk;omega));rw[hv]at hr;have HR:=hd' hr;have HT:=hd' ht;have HV:=hd' hvv;clear hr ht hvv hv
   go_wp2_with (first
    | refine wpList_load_mid (by rfl) 136 _ (by rfl) (w.heap.size+1) 0 (by rfl) (setC v).toList _ HR.out Tryz.underlying136 (by rfl) (by rw[info136];simp[setC_size]) ?_
    | refine wpList_store_mid (by rfl) 136 _ _ (by rfl) w.heap.size 0 (setC v) (by rfl) (by rfl) (by rw[setC_size];exact HT.out) (by rw[info136];simp[setC_size]) (setC_ones _) ?_)
   refine bodyPost_ret (v:=.tuple #[.agg (setC v),.nilIface]) ?_ rfl ?_
   rotate_left
   ·exact⟨by rw[HV.out],HBB.out⟩
   exact ret_set Tryz.results119 (by rfl) (by rfl) HS.out
end Code
end Go.Proofs.YtljhklblbafjkaaGreatDoor
namespace Go.Proofs
open Go.Shelf
shelf_lay Lays.n112 Nm 112 at Tryz as Tryz.reverseInt
end Go.Proofs
namespace Go.Proofs.YtljhklblbafjkaaGreatDoor
open Go.RowKit
namespace Code
def sigC(s:B.Sig)(tv:Value):Array Value:= #[.int .i64 s.line,.int .i64 s.col,.string s.name,.int .i64 s.role,.int .u64 s.branch,.int .i64 s.start,.int .i64 s.size,.bool s.moto,.bool s.signed,
 .int .i64 s.scale.num,.int .i64 s.scale.den,.int .i64 s.offset.num,.int .i64 s.offset.den,.int .i64 s.min.num,.int .i64 s.min.den,.int .i64 s.max.num,.int .i64 s.max.den,.string s.unit,tv]
structure SigWf(s:B.Sig):Prop where
 line:B.In64 s.line
 col:B.In64 s.col
 name:s.name.size≤9223372036854775807
 role:B.In64 s.role
 branch:B.InU64 s.branch
 start:B.In64 s.start
 size:B.In64 s.size
 scale:RtOk s.scale
 offset:RtOk s.offset
 min:RtOk s.min
 max:RtOk s.max
 unit:s.unit.size≤9223372036854775807
 dest:∀t∈s.dest,t.size≤9223372036854775807
structure CtrAt(w:World)(N S:Nat)(moto:Bool)(b:Nat):Prop where
 next:w.cell? ⟨N,0,none⟩=some (.int .i64 (b:Int))
 free:w.frozen? ⟨N,0,none⟩=false
 moto:w.cell? ⟨S,7,none⟩=some (.bool moto)
 ne:S≠N
theorem CtrAt.of{w w':World}{N S b:Nat}{moto:Bool}(h:CtrAt w N S moto b)(h1:w'.heap[N]? =w.heap[N]?)(h2:w'.heap[S]? =w.heap[S]?):CtrAt w' N S moto b:=by
 obtain⟨a,c,d,e⟩:=h;refine⟨?_, ?_, ?_,e⟩
 ·rw[←a];simp[World.cell?,h1]
 ·rw[←c];simp[World.frozen?,h1]
 ·rw[←d];simp[World.cell?,h2]
def RC(w:World)(b:Nat)(T:TypeId)(n:Nat)(C:Array Value):Prop:=CellsAt w b T n (fun j=>C.getD j undef)∧C.size=n
theorem getRC{C:Array Value}{n:Nat}(hC:C.size=n)(j:Nat)(hj:j<n):C[j]? =some (C.getD j undef):=by
 have:j<C.size:=by omega
 rw[Array.getElem?_eq_getElem this,Array.getD_eq_getD_getElem?,Array.getElem?_eq_getElem this];rfl
theorem RC.range{w:World}{b n:Nat}{T:TypeId}{C:Array Value}(h:RC w b T n C):w.rangeAt b 0 C.toList:=by
 obtain⟨h,hC⟩:=h;refine CellsAt.range h (by simp[hC]) ?_;intro j v hj;rw[Array.getElem?_toList]at hj
 have hlt:j<n:=by have:=(Array.getElem?_eq_some_iff.1 hj).1;omega
 rw[getRC hC j hlt]at hj;rw[Nat.zero_add];exact Option.some.inj hj
theorem RC.new(C:Array Value)(T:TypeId)(w:World){n X:Nat}(hC:C.size=n)(hX:X=w.heap.size):RC (w.alloc (.cells C T)) X T n C:=by
 subst hX;have:=CellsAt.new C T w (fun j=>C.getD j undef) (fun j hj=>getRC hC j (by omega));rw[hC]at this;exact⟨this,hC⟩
theorem RC.store{w:World}{b n:Nat}{T:TypeId}{D:Array Value}(h:RC w b T n D)(C:Array Value)(hC:C.size=n):RC (w.setCells b 0 C.toList) b T n C:=by
 refine⟨CellsAt.congr (CellsAt.setCells C.toList 0 h.1) (fun j hj=> ?_),hC⟩;rw[if_pos (by simp[hC];omega),Nat.sub_zero,List.getD_eq_getElem?_getD,Array.getElem?_toList,getRC hC j hj];rfl
theorem RC.cell{w:World}{b n:Nat}{T:TypeId}{C:Array Value}(h:RC w b T n C){j:Nat}{v:Value}(hv:C[j]? =some v):w.cell? ⟨b,j,none⟩=some v:=by
 have hj:j<n:=by have:=(Array.getElem?_eq_some_iff.1 hv).1;rw[h.2]at this;exact this
 rw[h.1.cell hj];rw[getRC h.2 j hj]at hv;exact hv
theorem RC.of{w w':World}{b n:Nat}{T:TypeId}{C:Array Value}(h:RC w b T n C)(he:w'.heap[b]? =w.heap[b]?):RC w' b T n C:=⟨CellsAt.of h.1 he,h.2⟩
theorem RC.alloc{w:World}{b n:Nat}{T:TypeId}{C:Array Value}(h:RC w b T n C)(o:Obj):RC (w.alloc o) b T n C:=⟨CellsAt.alloc h.1 o,h.2⟩
theorem RC.blk{w:World}{b n:Nat}{T:TypeId}{C:Array Value}(h:RC w b T n C):b<w.heap.size:=CellsAt.blk h.1
theorem RC.there{w:World}{b n:Nat}{T:TypeId}{C:Array Value}(h:RC w b T n C):w.there b 0 n:=CellsAt.there h.1 (by omega)
theorem infoN71:(Tryz.prog.info? 71).map (·.size)=some 19:=by kernel_rfl
set_option maxHeartbeats 1600000 in
theorem counter1_any(N S b:Nat)(moto:Bool)(w:World)(h:CtrAt w N S moto b)(hb:b≤1000):
    Calls Tryz.prog 125 #[.pointer (some ⟨N,0,none⟩),.pointer (some ⟨S,0,none⟩)] w fun e w'=>e= .returned (.int .i64 (b:Int))∧w'=w.setCell ⟨N,0,none⟩ (.int .i64 ((B.nextB moto b:Nat):Int)):=by
 obtain⟨h1,h2,h3,h4⟩:=h
 cases moto with
 | false=>
  have e1:IntKind.i64.wrap ((b:Int)+1)=((b+1:Nat):Int):=by rw[IntKind.wrap_i64];omega
  go_enter Tryz.func125,Tryz.ntmps125;go_wp2_with fail;go_ret;exact⟨by simp,by simp[B.nextB]⟩
 | true=>
  have e0:(b:Int).tmod 8=((b%8:Nat):Int):=(Int.ofNat_tmod b 8).symm
  by_cases hz:b%8=0
  ·have e2:(((b%8:Nat):Int)==0)=true:=by simp[hz]
   have e1:IntKind.i64.wrap ((b:Int)+15)=((b+15:Nat):Int):=by rw[IntKind.wrap_i64];omega
   have hn:B.nextB true b=b+15:=by unfold B.nextB;rw[if_pos rfl,if_pos hz]
   rw[hn];clear hz hn;go_enter Tryz.func125,Tryz.ntmps125;go_wp2_with fail;go_ret;exact⟨by simp,by simp⟩
  ·have e2:(((b%8:Nat):Int)==0)=false:=by simp;omega
   have e1:IntKind.i64.wrap ((b:Int)-1)=((b-1:Nat):Int):=by rw[IntKind.wrap_i64];omega
   have hn:B.nextB true b=b-1:=by unfold B.nextB;rw[if_pos rfl,if_neg hz]
   rw[hn];clear hz hn;go_enter Tryz.func125,Tryz.ntmps125;go_wp2_with fail;go_ret;exact⟨by simp,by simp⟩
theorem counter_any(s:B.Sig)(tv:Value)(b:Nat)(hb:s.start=(b:Int))(w:World):
    Calls Tryz.prog 84 #[.agg (sigC s tv)] w fun e w'=>e= .returned (.func (.func 125) #[] #[.pointer (some ⟨w.heap.size+1,0,none⟩),.pointer (some ⟨w.heap.size,0,none⟩)])∧
     CtrAt w' (w.heap.size+1) w.heap.size s.moto b∧Below w.heap.size w w':=by
 have hctr:CtrAt ((w.alloc (.cells (sigC s tv) 71)).alloc (.cells #[.int .i64 (b:Int)] 3)) (w.heap.size+1) w.heap.size s.moto b:=by
  refine⟨?_, ?_, ?_,by omega⟩
  ·rw[World.cell?_alloc2_new];rfl
  ·have h:=heap_alloc_new (w.alloc (.cells (sigC s tv) 71)) (.cells #[.int .i64 (b:Int)] 3)
   rw[World.size_alloc]at h;exact frozen_blk h
  ·rw[World.cell?_alloc2_first];rfl
 have hbel:Below w.heap.size w ((w.alloc (.cells (sigC s tv) 71)).alloc (.cells #[.int .i64 (b:Int)] 3)):=((Below.refl _ _).alloc (lR' _) _).alloc (by simp) _;have HC:=hd' hctr;have HB:=hd' hbel;clear hctr hbel;unfold sigC at*;rw[hb]at HC HB⊢;clear hb;go_enter Tryz.func84,Tryz.ntmps84;go_wp2_with fail;go_ret;exact⟨by simp,HC.out,HB.out⟩
def BitsOut(s:B.Sig)(w:World)(e:Ending)(w':World):Prop:=∃g cap,e= .returned (.tuple #[.slice (some ⟨g,0,none⟩) s.bits.length cap,.nilIface])∧
 One.OwnV 3 w' w.heap.size (some ⟨g,0,none⟩) s.bits.length cap (s.bits.map natV)∧Below w.heap.size w w'
def BitsNo(no:Int)(w:World)(e:Ending)(w':World):Prop:=e= .returned (.tuple #[.slice none 0 0,.iface 93 (.int .i64 no)])∧Below w.heap.size w w'
theorem infoI3:(Tryz.prog.info? 3).map (fun i=>(i.zero,i.size,i.bytes))=some (some (.int .i64 0),1,8):=by kernel_rfl
set_option maxRecDepth 100000 in
set_option maxHeartbeats 6400000 in
theorem bits_no(s:B.Sig)(tv:Value)(hs:SigWf s)(w:World)(h:s.placeNo≠0)(hx:¬(¬(s.size<1∨64<s.size)∧¬(s.start<0∨63<s.start))):Calls Tryz.prog 55 #[.agg (sigC s tv)] w (BitsNo s.placeNo w):=by
 obtain⟨no,hno⟩:∃no,s.placeNo=no:=⟨_,rfl⟩;rw[hno]at h⊢;unfold B.Sig.placeNo at hno;have hbel:Below w.heap.size w (w.alloc (.cells (sigC s tv) 71)):=(Below.refl _ _).alloc (lR' _) _;have HB:=hd' hbel;have HS:=hd' hs;clear hbel hs
 by_cases h1:s.size<1∨64<s.size
 ·rw[if_pos h1]at hno
  subst hno;clear h;rcases Classical.em (s.size<1)with h2 | h2
  ·have e1:(s.size<1)=True:=by simp[h2]
   clear h1 h2;unfold sigC at*;go_enter Tryz.func55,Tryz.ntmps55;go_wp2_with fail;go_ret2;exact⟨by simp,HB.out⟩
  ·have e1:(s.size<1)=False:=by simp[h2]
   have e2:(64<s.size)=True:=by simp;omega
   clear h1 h2;unfold sigC at*;go_enter Tryz.func55,Tryz.ntmps55;go_wp2_with fail;go_ret2;exact⟨by simp,HB.out⟩
 ·rw[if_neg h1]at hno
  have e1:(s.size<1)=False:=by simp;omega
  have e2:(64<s.size)=False:=by simp;omega
  by_cases h3:s.start<0∨63<s.start
  ·rw[if_pos h3]at hno
   subst hno;clear h;rcases Classical.em (s.start<0)with h2 | h2
   ·have e3:(s.start<0)=True:=by simp[h2]
    clear h1 h2 h3;unfold sigC at*;go_enter Tryz.func55,Tryz.ntmps55;go_wp2_with fail;go_ret2;exact⟨by simp,HB.out⟩
   ·have e3:(s.start<0)=False:=by simp[h2]
    have e4:(63<s.start)=True:=by simp;omega
    clear h1 h2 h3;unfold sigC at*;go_enter Tryz.func55,Tryz.ntmps55;go_wp2_with fail;go_ret2;exact⟨by simp,HB.out⟩
  ·rw[if_neg h3]at hno
   exact absurd ⟨h1,h3⟩ hx
theorem repeat_bound(moto:Bool)(b k n:Nat)(hk:k<n):Nat.repeat (B.nextB moto) k b∈B.rowFrom moto b n:=by
 have:∀m,B.rowFrom moto b (k+1+m)=B.rowFrom moto b (k+1)++B.rowFrom moto (Nat.repeat (B.nextB moto) (k+1) b) m:=by
  intro m
  induction m with
  | zero=>simp[B.rowFrom]
  | succ m ih=>
   have:∀(j i:Nat) (x:Nat),Nat.repeat (B.nextB moto) (j+i) x=Nat.repeat (B.nextB moto) i (Nat.repeat (B.nextB moto) j x):=by
    intro j i x
    induction i with
    | zero=>rfl
    | succ i ih=>exact congrArg (B.nextB moto) ih
   rw[show k+1+(m+1)=(k+1+m)+1 by omega,B.rowFrom_snoc,ih,List.append_assoc,this (k+1) m b,←B.rowFrom_snoc]
 obtain⟨m,rfl⟩:∃m,n=k+1+m:=⟨n-(k+1),by omega⟩;rw[this m,B.rowFrom_snoc];simp
structure BitsAt(s:B.Sig)(tv:Value)(b n M:Nat)(k:Nat)(ao:Option Addr)(cap:Nat)(w wr:World):Prop where
 own:One.OwnV 3 wr w.heap.size ao k cap ((B.rowFrom s.moto b k).map natV)
 row:RC wr w.heap.size 71 19 (sigC s tv)
 ctr:CtrAt wr (M+1) M s.moto (Nat.repeat (B.nextB s.moto) k b)
 far:∀j,ao=some ⟨j,0,none⟩→j≠w.heap.size∧j≠M∧j≠M+1
 lt:M+1<wr.heap.size
 bel:Below w.heap.size w wr
 low:∀b'∈B.rowFrom s.moto b k,b'≤63
 le:k≤n
theorem BitsAt.row_ctr{s:B.Sig}{tv:Value}{b n M k cap:Nat}{ao:Option Addr}{w wr:World}(h:BitsAt s tv b n M k ao cap w wr){c:Nat}(hc:Nat.repeat (B.nextB s.moto) k b=c):CtrAt wr (M+1) M s.moto c:=by
 rw[←hc];exact h.ctr
theorem BitsAt.small{s:B.Sig}{tv:Value}{b n M k cap:Nat}{ao:Option Addr}{w wr:World}(h:BitsAt s tv b n M k ao cap w wr)(hb:b≤63){c:Nat}(hc:Nat.repeat (B.nextB s.moto) k b=c):c≤1000:=by
 cases k with
 | zero=>
  have:b=c:=hc;omega
 | succ k=>
  have h1:=h.low _ (repeat_bound s.moto b k (k+1) (by omega));have h2:B.nextB s.moto (Nat.repeat (B.nextB s.moto) k b)=c:=hc;rw[←h2];generalize Nat.repeat (B.nextB s.moto) k b=x at h1;unfold B.nextB;split
  ·split<;>omega
  ·omega
structure BitsMid(s:B.Sig)(tv:Value)(b n M:Nat)(k c:Nat)(ao:Option Addr)(cap:Nat)(w w4:World):Prop where
 own:One.OwnV 3 w4 w.heap.size ao k cap ((B.rowFrom s.moto b k).map natV)
 row:RC w4 w.heap.size 71 19 (sigC s tv)
 ctr:CtrAt w4 (M+1) M s.moto (B.nextB s.moto c)
 far:∀j,ao=some ⟨j,0,none⟩→j≠w.heap.size∧j≠M∧j≠M+1
 lt:M+1<w4.heap.size
 bel:Below w.heap.size w w4
theorem BitsAt.mid{s:B.Sig}{tv:Value}{b n M k cap:Nat}{ao:Option Addr}{w wr:World}(h:BitsAt s tv b n M k ao cap w wr)(hM:w.heap.size<M){c:Nat}(hc:Nat.repeat (B.nextB s.moto) k b=c):
    BitsMid s tv b n M k c ao cap w (wr.setCell ⟨M+1,0,none⟩ (.int .i64 ((B.nextB s.moto c:Nat):Int))):=by
 have hoth:∀j,j≠M+1→(wr.setCell ⟨M+1,0,none⟩ (.int .i64 ((B.nextB s.moto c:Nat):Int))).heap[j]? =wr.heap[j]? :=fun j hj=>blk_other _ hj
 refine⟨h.own.keep (fun g hg=>hoth g (h.far g hg).2.2),RC.of h.row (hoth _ (by omega)), ?_,h.far, ?_,h.bel.setCell (by show w.heap.size≤M+1;omega) _⟩
 ·have hn:=h.ctr.next
  refine⟨?_, ?_, ?_,h.ctr.ne⟩
  ·exact World.cell?_setCell_same' _ _ _ (by rw[hn];rfl)
  ·rw[World.frozen?_setCell];exact h.ctr.free
  ·rw[←h.ctr.moto]
   have:=hoth M (by omega);simp[World.cell?,this]
 ·have:=h.lt
  simpa using this
theorem BitsMid.next{s:B.Sig}{tv:Value}{b n M k c cap cap':Nat}{ao ao':Option Addr}{w w4 w5:World}(h:BitsMid s tv b n M k c ao cap w w4)(hM:w.heap.size<M)(hc:Nat.repeat (B.nextB s.moto) k b=c)(hlow:∀b'∈B.rowFrom s.moto b k,b'≤63)(h63:c≤63)(hk:k<n)
    (hown:One.OwnV 3 w5 w.heap.size ao' (k+1) cap' ((B.rowFrom s.moto b k).map natV++[natV c])) (hkeep:∀b,b<w4.heap.size→ao≠some ⟨b,0,none⟩→w5.heap[b]? =w4.heap[b]?)
    (hwh:(ao'=ao∧cap'=cap)∨((∃g,ao'=some ⟨g,0,none⟩∧w4.heap.size≤g)∧∀b,b<w4.heap.size→w5.heap[b]? =w4.heap[b]?)) (hb:Below w.heap.size w4 w5):BitsAt s tv b n M (k+1) ao' cap' w w5:=by
 have hlt:=h.lt
 have hne:∀j,(j=w.heap.size∨j=M∨j=M+1)→ao≠some ⟨j,0,none⟩:=fun j hj e=>by
  have:=h.far j e;omega
 have hrow:B.rowFrom s.moto b (k+1)=B.rowFrom s.moto b k++[c]:=by rw[B.rowFrom_snoc,hc]
 refine⟨?_,RC.of h.row (hkeep _ h.row.blk (hne _ (.inl rfl))), ?_,fun j hj=> ?_,by have:=hb.size;omega,h.bel.trans hb,fun b' hb'=> ?_,hk⟩
 ·rw[hrow,List.map_append]
  exact hown
 ·have:Nat.repeat (B.nextB s.moto) (k+1) b=B.nextB s.moto c:=by rw[←hc];rfl
  rw[this];exact h.ctr.of (hkeep _ hlt (hne _ (.inr (.inr rfl)))) (hkeep _ (by omega) (hne _ (.inr (.inl rfl))))
 ·rcases hwh with⟨e,_⟩ | ⟨⟨g,e,hg⟩,_⟩
  ·rw[e]at hj;exact h.far j hj
  ·rw[e]at hj
   cases hj;have:=h.bel.size;omega
 ·rw[hrow]at hb'
  rcases List.mem_append.1 hb' with h1 | h1
  ·exact hlow b' h1
  ·rw[List.mem_singleton.1 h1];exact h63
theorem One.OwnV.free{E:TypeId}{w:World}{base g n cap:Nat}{vs:List Value}(h:One.OwnV E w base (some ⟨g,0,none⟩) n cap vs)(j:Nat):w.frozen? ⟨g,0+j,none⟩=false:=by
 rcases h.own.2 with⟨h0,_⟩ | ⟨g',c,cur,e,_,hh,_⟩
 ·cases h0
 ·cases e
  exact frozen_blk hh
theorem One.OwnV.puts{E:TypeId}{base g n cap:Nat}:∀(ws:List Value) (o:Nat) {w:World} {pre vs:List Value},One.OwnV E w base (some ⟨g,0,none⟩) n cap (pre++vs)→pre.length=o→vs.length=ws.length→
    One.OwnV E (w.setCells g o ws) base (some ⟨g,0,none⟩) n cap (pre++ws)
 | [],o,w,pre,vs,h,_,hl=>by
  have:vs=[]:=List.eq_nil_of_length_eq_zero hl;subst this;exact h
 | x::ws,o,w,pre,vs,h,hp,hl=>by
  cases vs with
  | nil=>cases hl
  | cons y vs=>
   have h1:=h.put o x
   have e:(pre++y::vs).set o x=(pre++[x])++vs:=by
    subst hp;simp
   rw[e]at h1;have h2:=One.OwnV.puts ws (o+1) h1 (by simp[hp]) (by simpa using hl);rw[List.append_assoc]at h2;exact h2
def lenV:Value→Nat
 | .slice _ n _=>n
 | _=>0
theorem run_make_ints(base n:Nat)(hn:n≤64)(w:World)(hb:base≤w.heap.size):∃w',(Instr.makeSlice 100 (.int .i64 0) (.int .i64 (n:Int))).run Tryz.prog w= .ok (.slice (some ⟨w.heap.size,0,none⟩) 0 n) w'∧
    One.OwnV 3 w' base (some ⟨w.heap.size,0,none⟩) 0 n []∧w.grownBy w' none:=by
 obtain⟨i,hi,hz,hs,hby⟩:∃i,Tryz.prog.info? 3=some i∧i.zero=some (.int .i64 0)∧i.size=1∧i.bytes=8:=by
  have h:=infoI3
  cases he:Tryz.prog.info? 3 with
  | none=>rw[he]at h;cases h
  | some i=>
   rw[he]at h;simp at h;exact⟨i,rfl,h.1,h.2.1,h.2.2⟩
 obtain⟨w',h1,h2,h3⟩:=run_make_own w base 100 3 i (.int .i64 0) 1 Tryz.underlying100 hi hz hs .i64 .i64 n (by rw[hby];omega) (by unfold maxLen;omega) hb;exact⟨w',h1,⟨rfl,h2⟩,h3⟩
def BitsAny(s:B.Sig)(w:World)(e:Ending)(w':World):Prop:=(s.placeNo=0→BitsOut s w e w')∧(s.placeNo≠0→BitsNo s.placeNo w e w')
set_option maxRecDepth 100000 in
set_option maxHeartbeats 6400000 in
theorem bits_loop(s:B.Sig)(tv:Value)(w:World)(b n:Nat)(hb:s.start=(b:Int))(hn:s.size=(n:Int))(hb63:b≤63)(hn1:1≤n)(hn64:n≤64):Calls Tryz.prog 55 #[.agg (sigC s tv)] w (BitsAny s w):=by
 have hplace:s.placeNo=if(B.rowFrom s.moto b n).all (fun b=>decide (b≤63))=true then 0 else 16:=by
  unfold B.Sig.placeNo;rw[if_neg (by omega),if_neg (by omega),hb,hn,Int.toNat_natCast,Int.toNat_natCast]
 have hbits:s.bits=if s.moto=true then(B.rowFrom s.moto b n).reverse else B.rowFrom s.moto b n:=by
  unfold B.Sig.bits;rw[hb,hn,Int.toNat_natCast,Int.toNat_natCast]
 have hcnt:=counter_any s tv b hb;have hrow:=RC.new (sigC s tv) 71 w (n:=19) rfl rfl;have hbel:Below w.heap.size w (w.alloc (.cells (sigC s tv) 71)):=(Below.refl _ _).alloc (lR' _) _
 have hsz:(w.alloc (.cells (sigC s tv) 71)).heap.size=w.heap.size+1:=by simp
 obtain⟨w1,hw1⟩:∃w1,w.alloc (.cells (sigC s tv) 71)=w1:=⟨_,rfl⟩;rw[hw1]at hrow hbel hsz;obtain⟨w2,hmk,hown,hg⟩:=run_make_ints w.heap.size n hn64 w1 (by omega);have HB2:Hid (Below w.heap.size w w2):=hd' (hbel.grown hg (by omega) (fun j hj=>by cases hj));have hrow2:RC w2 w.heap.size 71 19 (sigC s tv):=RC.of hrow (hg.block _ hrow.blk (by simp));rw[hsz]at hmk hown
 have hz2:w.heap.size+1<w2.heap.size:=by
  rcases hown.form with⟨h,_⟩ | ⟨g,h,_,h2⟩
  ·cases h
  ·cases h;exact h2
 have hc1:=fun(j:Nat) (v:Value) (hv:(sigC s tv)[j]? =some v)=>hrow.cell hv
 have k4:w1.cell? ⟨w.heap.size,5,none⟩=some (.int .i64 (b:Int)):=hc1 5 _ (by unfold sigC;rw[hb];rfl);have k5:w1.cell? ⟨w.heap.size,6,none⟩=some (.int .i64 (n:Int)):=hc1 6 _ (by unfold sigC;rw[hn];rfl);have HP:=hd' hplace;have HBI:=hd' hbits;have HO2:=hd' hown;have HR2:=hd' hrow2;have HZ2:=hd' hz2;have HC:=hd' hcnt;have HSB:=hd' hb;have HSN:=hd' hn;clear hplace hbits hown hrow2 hz2 hcnt hc1 hrow hbel hsz hg hb hn
 have e1:((n:Int)<1)=False:=by simp;omega
 have e2:((64:Int)<n)=False:=by simp;omega
 have e3:((b:Int)<0)=False:=by simp
 have e4:((63:Int)<b)=False:=by simp;omega
 go_enter Tryz.func55,Tryz.ntmps55
 go_upto_region 1 with fail
 try rw[hw1]
 clear hw1
 go_upto_region 6 with fail
 have hrr:=RC.range HR2.out
 go_wp2_with (first
  | refine wpList_load_mid (by rfl) 71 _ (by rfl) w.heap.size 0 (by rfl) (sigC s tv).toList _ hrr Tryz.underlying71 (by rfl) (by rw[infoN71];rfl) ?_
  | (go_at_call 84;refine(HC.out w2).mono ?_;rintro e w3 ⟨rfl,hctr,hb3⟩))
 clear hrr k4 k5 hmk
 have hat:BitsAt s tv b n w2.heap.size 0 (some ⟨w.heap.size+1,0,none⟩) n w w3:=by
  have hz2:=HZ2.out;refine⟨HO2.out.kept hb3,RC.of HR2.out (hb3.block _ (by omega)),hctr,fun j hj=> ?_, ?_,HB2.out.trans (hb3.mono (by omega)),fun b' hb'=>by simp[B.rowFrom]at hb',by omega⟩
  ·cases hj
   omega
  ·have:=hctr.free
   have h1:=World.block_lt_of_cell? _ _ hctr.next;exact h1
 have HAT:=hd' hat;clear hat hctr hb3;obtain⟨M,hM⟩:∃M,w2.heap.size=M:=⟨_,rfl⟩;rw[hM]at HAT HZ2⊢;clear hM HO2 HR2 HB2 HC
 go_loopw [4] (fun l wr=>∃(k cap:Nat) (ao:Option Addr),l= .slice ao k cap∧Hid (BitsAt s tv b n M k ao cap w wr)) (fun l _=>n-lenV l)
 case atStart=>exact⟨0,n,_,rfl,HAT⟩
 case round=>
  obtain⟨k,cap,ao,rfl,HK⟩:=hrel;clear HAT;have k5:wr.cell? ⟨w.heap.size,6,none⟩=some (.int .i64 (n:Int)):=HK.out.row.cell (j:=6) (by unfold sigC;rw[HSN.out];rfl);have hkn:=HK.out.le
  by_cases hlt:k<n
  ·have e5:((k:Int)<n)=True:=by simp;omega
   obtain⟨c,hc⟩:∃c,Nat.repeat (B.nextB s.moto) k b=c:=⟨_,rfl⟩;have hmem:=repeat_bound s.moto b k n hlt;rw[hc]at hmem;have HMEM:=hd' hmem;have HCC:=hd' hc;have hctr:=HK.out.row_ctr hc;have hc1000:c≤1000:=HK.out.small hb63 hc;have HMID:=hd' (HK.out.mid (by have:=HZ2.out;omega) hc);clear hmem hc hkn
   by_cases h63:c≤63
   ·have e6:((63:Int)<c)=False:=by simp;omega
    have H63:=hd' h63;clear h63;go_wp2_with fail;refine(counter1_any (M+1) M c s.moto _ hctr hc1000).mono ?_;rintro e w4 ⟨rfl,hw4⟩;have hmid:=HMID.out;rw[←hw4]at hmid;have HMD:=hd' hmid;clear hw4 hmid HMID;go_wp2_with (at_builtin;refine One.app_one Tryz.underlying100 infoI3 (by rfl) rfl _ _ rfl w.heap.size rfl HMD.out.own (by rfl) rfl (by omega) (by omega) HMD.out.bel.size ?_;intro ao5 cap5 w5 hown5 hkeep5 hwh5 hb5);go_roundw
    case rel=>exact⟨k+1,cap5,ao5,by go_num,hd' (HMD.out.next (by have:=HZ2.out;omega) HCC.out HK.out.low H63.out hlt hown5 hkeep5 hwh5 hb5)⟩
    case measure=>simp[lenV];omega
   ·have e6:((63:Int)<c)=True:=by simp;omega
    have hno:s.placeNo=16:=by
     rw[HP.out,if_neg];intro h;have:=List.all_eq_true.1 h c HMEM.out;simp at this;exact h63 this
    have HNO:=hd' hno;clear h63 hno;go_wp2_with fail;refine(counter1_any (M+1) M c s.moto _ hctr hc1000).mono ?_;rintro e w4 ⟨rfl,rfl⟩;go_wp2_with fail;go_ret2;refine⟨fun h=> ?_,fun _=>⟨by rw[HNO.out];simp,HMID.out.bel⟩⟩;rw[HNO.out]at h;cases h
  ·obtain rfl:k=n:=by omega
   have e5:((k:Int)<k)=False:=by simp
   have k6:wr.cell? ⟨w.heap.size,7,none⟩=some (.bool s.moto):=HK.out.row.cell (j:=7) rfl
   obtain⟨g,hao,hgb,hgw⟩:∃g,ao=some ⟨g,0,none⟩∧w.heap.size≤g∧g<wr.heap.size:=by
    rcases HK.out.own.form with⟨_,h0,_⟩ | h
    ·omega
    ·exact h
   subst hao
   have hp0:s.placeNo=0:=by
    rw[HP.out,if_pos];exact List.all_eq_true.2 (fun b' hb'=>by simpa using HK.out.low b' hb')
   have hbl:s.bits.length=k:=by rw[s.bits_length,HSN.out,Int.toNat_natCast]
   have HP0:=hd' hp0;have HBL:=hd' hbl;clear hp0 hbl hkn
   cases hm:s.moto with
   | false=>
    rw[hm]at k6;have hbi:=HBI.out;rw[hm,if_neg (by simp)]at hbi;have HBB:=hd' hbi;have HM:=hd' hm;clear hm hbi;go_wp2_with fail;go_ret2;refine⟨fun _=>⟨g,cap,by simp[HBL.out], ?_,HK.out.bel⟩,fun h=>absurd HP0.out h⟩;rw[HBB.out,B.rowFrom_length];have h:=HK.out.own;rw[HM.out]at h;exact h
   | true=>
    rw[hm]at k6;have hbi:=HBI.out;rw[hm,if_pos rfl]at hbi
    have hzl:((B.rowFrom s.moto b k).map Int.ofNat).length=k:=by rw[List.length_map,B.rowFrom_length]
    have hrev:=Any.slices_Reverse_int_cells Tryz.reverseInt g 0 k cap ((B.rowFrom s.moto b k).map Int.ofNat) wr (by rw[hzl];exact lR' _) (by omega) (fun j hj=> ?_) (fun j _=>HK.out.own.free j)
    ·have HBB:=hd' hbi
     obtain⟨L,hL⟩:∃L,s.bits.map natV=L:=⟨_,rfl⟩
     have hl2:(((B.rowFrom s.moto b k).map Int.ofNat).take k).reverse.map (Value.int .i64)=L:=by
      rw[List.take_of_length_le (by rw[hzl];exact lR' _),←List.map_reverse,List.map_map,←hL,hbi,hm];rfl
     have hLl:L.length=k:=by rw[←hL,List.length_map,HBL.out]
     have HREV:=hd' (hrev.mono (fun e w' (h:_∧_)=>(⟨h.1,h.2.choose,by rw[←hl2];exact h.2.choose_spec⟩:e= .returned (.tuple #[])∧∃q,w'=(wr.drewN q).setCells g 0 L)));have HL:=hd' hL;have HLL:=hd' hLl;clear hm hbi hrev hL hl2 hLl hzl;go_wp2_with (go_at_call 85;refine HREV.out.mono ?_;rintro e w9 ⟨rfl,q,rfl⟩);go_ret2;refine⟨fun _=>⟨g,cap,by simp[HBL.out], ?_, ?_⟩,fun h=>absurd HP0.out h⟩
     ·rw[HBL.out,HL.out]
      exact One.OwnV.puts L 0 (pre:=[]) (HK.out.own.kept (belowN (Below.refl _ _) q)) rfl (by rw[HLL.out];simp[B.rowFrom_length])
     ·exact(belowN HK.out.bel q).grown (grownBy_setCells _ _ _ _) (by simpa using HK.out.bel.size) (fun j hj=>by cases hj;exact hgb)
    ·rw[hzl]at hj
     obtain⟨g',e,_,_,hc⟩:=HK.out.own.cell (i:=j) (v:=natV ((B.rowFrom s.moto b k)[j]'(by rw[B.rowFrom_length];exact hj))) (by rw[List.getElem?_map,List.getElem?_eq_getElem (by rw[B.rowFrom_length];exact hj)];rfl);cases e;rw[Nat.zero_add,hc];unfold natV;congr 2;rw[List.getD_eq_getElem?_getD,List.getElem?_map,List.getElem?_eq_getElem (by rw[B.rowFrom_length];exact hj)];rfl
theorem bits_any(s:B.Sig)(tv:Value)(hs:SigWf s)(w:World):Calls Tryz.prog 55 #[.agg (sigC s tv)] w (BitsAny s w):=by
 by_cases hx:¬(s.size<1∨64<s.size)∧¬(s.start<0∨63<s.start)
 ·exact bits_loop s tv w s.start.toNat s.size.toNat (by omega) (by omega) (by omega) (by omega) (by omega)
 ·have hne:s.placeNo≠0:=by
    unfold B.Sig.placeNo
    by_cases h1:s.size<1∨64<s.size
    ·rw[if_pos h1];decide
    ·rw[if_neg h1]
     by_cases h2:s.start<0∨63<s.start
     ·rw[if_pos h2];decide
     ·exact absurd ⟨h1,h2⟩ hx
  exact(bits_no s tv hs w hne hx).mono fun e w' h=>⟨fun h0=>absurd h0 hne,fun _=>h⟩
end Code
end Go.Proofs.YtljhklblbafjkaaGreatDoor
namespace Go.Proofs.YtljhklblbafjkaaGreatDoor
open Go.RowKit
namespace Code
def errL(no l c:Int):Value:=if no=0 then .nilIface else .iface 116 (.agg #[.int .i64 no,.int .i64 l,.int .i64 c])
theorem cat_any(no l c:Int)(w:World):Calls Tryz.prog 50 #[.int .i64 no,.agg #[.int .i64 l,.int .i64 c]] w fun e w'=>e= .returned (errL no l c)∧Below w.heap.size w w':=by
 unfold errL
 by_cases h:no=0
 ·have e1:(no==0)=true:=by simp[h]
  rw[if_pos h];clear h;go_enter Tryz.func50,Tryz.ntmps50;go_wp2_with fail;go_ret;exact⟨rfl,(Below.refl _ _).alloc (lR' _) _⟩
 ·have e1:(no==0)=false:=by simp[h]
  rw[if_neg h];clear h;go_enter Tryz.func50,Tryz.ntmps50;go_wp2_with fail;go_ret;exact⟨rfl,(Below.refl _ _).alloc (lR' _) _⟩
def NumOut(n:Int)(w:World)(e:Ending)(w':World):Prop:=e= .returned (.int .i64 n)∧Below w.heap.size w w'
theorem w64_of(v:Nat)(hv:v<18446744073709551616):wrap64 (v:Int)=if v<9223372036854775808 then(v:Int)else(v:Int)-18446744073709551616:=by
 unfold wrap64
 split<;>omega
theorem fits_plain(v n:Nat)(h1:1≤n)(h64:n≤64):B.fits v n false=decide ((v:Int)/2^(n-1)≤1):=by
 have hp:0<2^(n-1):=Nat.two_pow_pos _
 have h2:2^n=2*2^(n-1):=by rw[←Nat.pow_succ'];congr 1;omega
 have e:((v:Int)/2^(n-1))=((v/2^(n-1):Nat):Int):=by simp
 rw[e];generalize 2^(n-1)=p at hp h2⊢;unfold B.fits B.extend B.low;rw[if_neg (by simp),if_neg (by omega),h2];rw[Bool.eq_iff_iff];simp only[Bool.and_eq_true,decide_eq_true_eq,beq_iff_eq]
 have h3:v/p≤1↔v<2*p:=by
  rw[←Nat.lt_add_one_iff,Nat.div_lt_iff_lt_mul hp]
 constructor
 ·intro h
  have:v<2*p:=by rw[←h.2];exact Nat.mod_lt _ (by omega)
  have:=h3.2 this;omega
 ·intro h
  exact⟨by omega,Nat.mod_eq_of_lt (h3.1 (by omega))⟩
theorem fits_sign(v n:Nat)(hv:v<18446744073709551616)(h1:1≤n)(h64:n≤64):B.fits v n true=(wrap64 (v:Int)/2^(n-1)==0||wrap64 (v:Int)/2^(n-1)== -1):=by
 rw[w64_of v hv];have hp:0<2^(n-1):=Nat.two_pow_pos _
 have h2:2^n=2*2^(n-1):=by rw[←Nat.pow_succ'];congr 1;omega
 have h3:2^(n-1)*2^(64-n)=9223372036854775808:=by rw[←Nat.pow_add,show n-1+(64-n)=63 by omega]
 have hc:((2:Int)^(n-1))=((2^(n-1):Nat):Int):=by simp
 rw[hc];have hk:0<2^(64-n):=Nat.two_pow_pos _
 have hkk:n<64→2≤2^(64-n):=fun h=>by
  have:2^1≤2^(64-n):=Nat.pow_le_pow_right (by omega) (by omega);simpa using this
 have hk1:n=64→2^(64-n)=1:=fun h=>by rw[h]
 unfold B.fits B.extend B.low;rw[if_neg (by omega:¬64<n),h2];generalize 2^(n-1)=p at hp h2 h3⊢;generalize 2^(64-n)=k at h3 hk hkk hk1;generalize hs:(if v<9223372036854775808 then(v:Int)else(v:Int)-18446744073709551616)=s
 have hpp:(0:Int)<(p:Int):=by omega
 have q0:s/(p:Int)=0↔0≤s∧s<p:=by
  constructor
  ·intro h
   have a:=(Int.le_ediv_iff_mul_le hpp).1 (show(0:Int)≤s/p by omega);have b:=(Int.ediv_lt_iff_lt_mul hpp).1 (show s/p<(1:Int) by omega);omega
  ·intro h
   have a:=(Int.le_ediv_iff_mul_le hpp).2 (show(0:Int)*p≤s by omega);have b:=(Int.ediv_lt_iff_lt_mul hpp).2 (show s<(1:Int)*p by omega);omega
 have q1:s/(p:Int)= -1↔ -(p:Int)≤s∧s<0:=by
  constructor
  ·intro h
   have a:=(Int.le_ediv_iff_mul_le hpp).1 (show(-1:Int)≤s/p by omega);have b:=(Int.ediv_lt_iff_lt_mul hpp).1 (show s/p<(0:Int) by omega);omega
  ·intro h
   have a:=(Int.le_ediv_iff_mul_le hpp).2 (show(-1:Int)*p≤s by omega);have b:=(Int.ediv_lt_iff_lt_mul hpp).2 (show s<(0:Int)*p by omega);omega
 rw[Bool.eq_iff_iff];simp only[Bool.and_eq_true,Bool.or_eq_true,decide_eq_true_eq,beq_iff_eq,q0,q1];have hn:1≤n∧n≤64:=⟨h1,h64⟩
 by_cases h:n=64
 ·have hk':=hk1 h
  subst hk';rw[if_neg (by omega)]
  have:p=9223372036854775808:=by omega
  subst this;rw[Nat.mod_eq_of_lt (by omega)]
  split at hs<;>(subst hs;constructor<;>intro _<;>first | omega | exact⟨hn,rfl⟩)
 ·have hk2:=hkk (by omega)
  have hp62:2*p≤9223372036854775808:=by
   rw[←h3,Nat.mul_comm 2 p];exact Nat.mul_le_mul_left p hk2
  have hml:v%(2*p)<2*p:=Nat.mod_lt _ (by omega)
  have hhigh:18446744073709551616-p≤v→v%(2*p)=v-(18446744073709551616-2*p):=fun hge=>by
   have e:v=(v-(18446744073709551616-2*p))+2*p*(k-1):=by
    have:2*p*(k-1)=18446744073709551616-2*p:=by
     rw[Nat.mul_sub,Nat.mul_one,Nat.mul_assoc,h3]
    omega
   have hlt:v-(18446744073709551616-2*p)<2*p:=by omega
   have:=Nat.add_mul_mod_self_left (v-(18446744073709551616-2*p)) (2*p) (k-1);rw[←e,Nat.mod_eq_of_lt hlt]at this;exact this
  have hlow:v<p→v%(2*p)=v:=fun h=>Nat.mod_eq_of_lt (by omega)
  have hle:v%(2*p)≤v:=Nat.mod_le _ _;generalize v%(2*p)=r at hml hhigh hlow hle⊢
  by_cases hr:p≤r
  ·rw[if_pos ⟨trivial,h1,by omega,hr⟩]
   constructor
   ·rintro⟨_,e⟩
    split at hs<;>omega
   ·intro hq
    refine⟨hn, ?_⟩;split at hs
    ·have:=hlow (by omega)
     omega
    ·have:=hhigh (by omega)
     omega
  ·rw[if_neg (by omega)]
   constructor
   ·rintro⟨_,e⟩
    split at hs<;>omega
   ·intro hq
    refine⟨hn, ?_⟩;split at hs
    ·exact hlow (by omega)
    ·have:=hhigh (by omega)
     omega
theorem cfits_any(v n:Nat)(sg:Bool)(w:World)(hv:v<18446744073709551616)(h1:1≤n)(h64:n≤64):
    Calls Tryz.prog 52 #[.int .u64 (v:Int),.int .i64 (n:Int),.bool sg] w fun e w'=>e= .returned (.bool (B.fits v n sg))∧w'=w:=by
 have e1:((n:Int)<1)=False:=by simp;omega
 have e2:((64:Int)<n)=False:=by simp;omega
 have e3:IntKind.i64.wrap ((n:Int)-1)=((n-1:Nat):Int):=by rw[IntKind.wrap_i64];omega
 cases sg with
 | false=>
  rw[fits_plain v n h1 h64];go_enter Tryz.func52,Tryz.ntmps52;go_wp2_with fail;go_ret;exact⟨rfl,rfl⟩
 | true=>
  rw[fits_sign v n hv h1 h64]
  cases hq:wrap64 (v:Int)/2^(n-1)==0 with
  | true=>
   go_enter Tryz.func52,Tryz.ntmps52;go_wp2_with fail;go_ret;exact⟨rfl,rfl⟩
  | false=>
   go_enter Tryz.func52,Tryz.ntmps52;go_wp2_with fail;go_ret;exact⟨by simp,rfl⟩
end Code
end Go.Proofs.YtljhklblbafjkaaGreatDoor
namespace Go.Proofs.YtljhklblbafjkaaGreatDoor
open Go.RowKit
namespace Code
theorem takeU{ops:Array Oper}{Q:Exit→Act→World→Prop}{S:World→Prop}{i d fuel:Nat}{listed:Array Bool}{oi:Oper}{a:Act}{w:World}(q:ops[i]? =some oi)(hd:oi.dst=some d)
    (hs:Region.noSelect ops=true) (hf:Region.free .any ops listed i=true) (hr:(Region.ready .any ops listed).contains i=true) (hQ:∀c a w,Q (.panic c) (a.put (some d) undef) w→Q (.panic c) a w)
    (hw:Region.wanted oi (yielded ops a.tmps)=false) (hS:S w) (h:wpAnyH Tryz.prog .any ops Q S fuel (listed.setIfInBounds i true) (a.put (some d) undef) w):wpAnyH Tryz.prog .any ops Q S (fuel+1) listed a w:=by
 refine wpAnyH_take q hs hf hr (fun c a w h=>hQ c a w (by rw[hd]at h;exact h)) (Or.inr ⟨hw,rfl⟩) hS ?_;rw[hd];exact h
theorem takeW{ops:Array Oper}{Q:Exit→Act→World→Prop}{S:World→Prop}{i d fuel:Nat}{listed:Array Bool}{oi:Oper}{v:Value}{a:Act}{w:World}(q:ops[i]? =some oi)(hd:oi.dst=some d)
    (hs:Region.noSelect ops=true) (hf:Region.free .any ops listed i=true) (hr:(Region.ready .any ops listed).contains i=true) (hQ:∀c a w,Q (.panic c) (a.put (some d) v) w→Q (.panic c) a w)
    (hw:Region.wanted oi (yielded ops a.tmps)=true) (hy:∀w',S w'→(execOp a.eval oi).run Tryz.prog w'= .ok (.value v) w') (hS:S w) (h:wpAnyH Tryz.prog .any ops Q S fuel (listed.setIfInBounds i true) (a.put (some d) v) w):wpAnyH Tryz.prog .any ops Q S (fuel+1) listed a w:=by
 refine wpAnyH_take q hs hf hr (fun c a w h=>hQ c a w (by rw[hd]at h;exact h)) (Or.inl ⟨hw,fun w' hw=>hy w' hw⟩) hS ?_;rw[hd];exact h
end Code
end Go.Proofs.YtljhklblbafjkaaGreatDoor
