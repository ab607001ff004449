/- Small lemmas: a block whose cells are known one by one, as a function of the place; sixteen truths by value. -/
import Derived.Test.YtpibampaobncaaaGreatDoorBaseQ
import Derived.Deep.MidRow
import Derived.Deep.RegionHeld
import Derived.Laws.MakeOwn
import Derived.Test.YtpibampaobncaaaGreatDoorPlainQ
import Derived.Test.YtpibampaobncaaaGreatDoorMoreQ
import Derived.Test.YtpibampaobncaaaGreatDoorVerQ
import Derived.StillTailTactics
import Derived.RegionTactic
import Derived.Deep.DrawnRows
namespace Go.Proofs.YtpibampaobncaaaGreatDoor
open Go.RowKit
namespace Code
def CellsAt(w:World)(b:Nat)(t:TypeId)(n:Nat)(f:Nat→Value):Prop:=∃C,w.heap[b]? =some (.cells C t (0,0))∧C.size=n∧∀j,j<n→C[j]? =some (f j)
theorem CellsAt.cell{w:World}{b n:Nat}{t:TypeId}{f:Nat→Value}(h:CellsAt w b t n f){j:Nat}(hj:j<n):w.cell? ⟨b,j,none⟩=some (f j):=by
 obtain⟨C,h1,_,h3⟩:=h;rw[cell_of_row _ _ _ _ _ _ h1];exact h3 j hj
theorem CellsAt.free{w:World}{b n:Nat}{t:TypeId}{f:Nat→Value}(h:CellsAt w b t n f)(j:Nat):w.frozen? ⟨b,j,none⟩=false:=by
 obtain⟨C,h1,_⟩:=h;exact frozen_blk h1
theorem CellsAt.blk{w:World}{b n:Nat}{t:TypeId}{f:Nat→Value}(h:CellsAt w b t n f):b<w.heap.size:=by
 obtain⟨C,h1,_⟩:=h;exact lt_of_block h1
theorem CellsAt.of{w w':World}{b n:Nat}{t:TypeId}{f:Nat→Value}(h:CellsAt w b t n f)(he:w'.heap[b]? =w.heap[b]?):CellsAt w' b t n f:=by
 obtain⟨C,h1,h2,h3⟩:=h;exact⟨C,he.trans h1,h2,h3⟩
theorem CellsAt.below{w w':World}{b n N:Nat}{t:TypeId}{f:Nat→Value}(h:CellsAt w b t n f)(hb:Below N w w')(hN:b<N):CellsAt w' b t n f:=h.of (hb.block b hN)
theorem CellsAt.alloc{w:World}{b n:Nat}{t:TypeId}{f:Nat→Value}(h:CellsAt w b t n f)(o:Obj):CellsAt (w.alloc o) b t n f:=
 h.below ((Below.refl w.heap.size w).alloc (Nat.le_refl _) o) h.blk
theorem CellsAt.grown{w w':World}{b g n:Nat}{t:TypeId}{f:Nat→Value}(h:CellsAt w b t n f)(hg:w.grownBy w' (some g))(hne:b≠g):CellsAt w' b t n f:=
 h.of (hg.block b h.blk (fun e=>hne (Option.some.inj e)))
theorem CellsAt.congr{w:World}{b n:Nat}{t:TypeId}{f g:Nat→Value}(h:CellsAt w b t n f)(he:∀j,j<n→f j=g j):CellsAt w b t n g:=by
 obtain⟨C,h1,h2,h3⟩:=h;exact⟨C,h1,h2,fun j hj=>by rw[←he j hj];exact h3 j hj⟩
theorem CellsAt.set{w:World}{b n:Nat}{t:TypeId}{f:Nat→Value}(h:CellsAt w b t n f)(k:Nat)(v:Value):CellsAt (w.setCell ⟨b,k,none⟩ v) b t n (fun j=>if j=k then v else f j):=by
 obtain⟨C,h1,h2,h3⟩:=h;refine⟨_,blk_setCell h1 v,by simp[h2],fun j hj=> ?_⟩
 by_cases e:j=k
 ·subst e
  rw[Array.getElem?_setIfInBounds_self_of_lt (by omega)];simp
 ·rw[Array.getElem?_setIfInBounds_ne (Ne.symm e)]
  simp only[if_neg e];exact h3 j hj
theorem CellsAt.other{w:World}{b n:Nat}{t:TypeId}{f:Nat→Value}(h:CellsAt w b t n f)(a:Addr)(v:Value)(hne:b≠a.block):CellsAt (w.setCell a v) b t n f:=h.of (blk_other v hne)
theorem CellsAt.drew{w:World}{b n:Nat}{t:TypeId}{f:Nat→Value}(h:CellsAt w b t n f)(k:Nat):CellsAt (w.drewN k) b t n f:=h.of (by
 have:∀k,(w.drewN k).heap=w.heap:=by
  intro k
  induction k with
  | zero=>rfl
  | succ k ih=>exact ih
 rw[this])
theorem grownBy_setCells(b:Nat):∀(vs:List Value) (o:Nat) (w:World),w.grownBy (w.setCells b o vs) (some b)
 | [],_,w=>World.grownBy.refl _ _
 | v::vs,o,w=>(show w.grownBy (w.setCell ⟨b,o,none⟩ v) (some b)from⟨rfl,rfl,rfl,by simp[World.setCell],fun k _ hk=>Below.heap_setCell _ _ _ _ (fun e=>hk (by rw[e]))⟩).trans (grownBy_setCells b vs (o+1) (w.setCell ⟨b,o,none⟩ v))
theorem CellsAt.setCells{b n:Nat}{t:TypeId}:∀(vs:List Value) (o:Nat) {w:World} {f:Nat→Value},CellsAt w b t n f→CellsAt (w.setCells b o vs) b t n (fun j=>if o≤j∧j<o+vs.length then vs.getD (j-o) undef else f j)
 | [],o,w,f,h=>h.congr (fun j _=>by rw[if_neg (by simp<;>omega)])
 | v::vs,o,w,f,h=>by
  have h1:=CellsAt.setCells vs (o+1) (h.set o v);refine CellsAt.congr h1 (fun j _=> ?_);simp only[List.length_cons]
  by_cases e:j=o
  ·subst e
   rw[if_neg (by omega),if_pos rfl,if_pos (by omega),Nat.sub_self];rfl
  ·by_cases h2:o+1≤j∧j<o+1+vs.length
   ·rw[if_pos h2,if_pos (by omega),show j-o=(j-(o+1))+1 by omega,List.getD_cons_succ]
   ·rw[if_neg h2,if_neg e,if_neg (by omega)]
theorem CellsAt.there{w:World}{b n:Nat}{t:TypeId}{f:Nat→Value}(h:CellsAt w b t n f){o m:Nat}(hm:o+m≤n):w.there b o m:=fun j hj=>⟨by rw[h.cell (by omega)];rfl,h.free _⟩
theorem CellsAt.range{w:World}{b n:Nat}{t:TypeId}{f:Nat→Value}(h:CellsAt w b t n f){o:Nat}{vs:List Value}(hm:o+vs.length≤n)(hv:∀j v,vs[j]? =some v→f (o+j)=v):w.rangeAt b o vs:=by
 intro j v hj;have:=(List.getElem?_eq_some_iff.1 hj).1;rw[h.cell (by omega),hv j v hj]
theorem CellsAt.new(C:Array Value)(t:TypeId)(w:World)(f:Nat→Value)(hf:∀j,j<C.size→C[j]? =some (f j)):CellsAt (w.alloc (.cells C t)) w.heap.size t C.size f:=⟨C,heap_alloc_new w _,rfl,hf⟩
theorem takeS{ops:Array Oper}{Q:Exit→Act→World→Prop}{S:World→Prop}{i d fuel:Nat}{listed:Array Bool}{oi:Oper}{v:Value}{a:Act}{w:World}(q:ops[i]? =some oi)(hd:oi.dst=some d)(hg:oi.guard=none)
    (hs:Region.noSelect ops=true) (hf:Region.free .any ops listed i=true) (hr:(Region.ready .any ops listed).contains i=true) (hQ:∀c a w,Q (.panic c) (a.put (some d) v) w→Q (.panic c) a w)
    (hy:∀w',S w'→(execOp a.eval oi).run Tryz.prog w'= .ok (.value v) w') (hS:S w) (h:wpAnyH Tryz.prog .any ops Q S fuel (listed.setIfInBounds i true) (a.put (some d) v) w):wpAnyH Tryz.prog .any ops Q S (fuel+1) listed a w:=by
 refine wpAnyH_take q hs hf hr (fun c a w h=>hQ c a w (by rw[hd]at h;exact h)) (Or.inl ⟨by simp[Region.wanted,hg],fun w' hw=>hy w' hw⟩) hS ?_;rw[hd];exact h
theorem takeM{ops:Array Oper}{Q:Exit→Act→World→Prop}{S:World→Prop}{i d fuel:Nat}{listed:Array Bool}{oi:Oper}{a:Act}{w:World}(ty:TypeId)(x:Operand)(b o:Nat)(C:Array Value)(td:TypeDesc)(q:ops[i]? =some oi)(hd:oi.dst=some d)(hg:oi.guard=none)(ho:oi.op= .load ty x)
    (hx:a.eval x= .pointer (some ⟨b,o,none⟩)) (hu:Tryz.prog.underlying ty=some td) (hrow:td.isRow=true) (hi:(Tryz.prog.info? ty).map (·.size)=some C.toList.length)
    (hs:Region.noSelect ops=true) (hf:Region.free .any ops listed i=true) (hr:(Region.ready .any ops listed).contains i=true) (hQ:∀c a w,Q (.panic c) (a.put (some d) (.agg C)) w→Q (.panic c) a w)
    (hy:∀w',S w'→w'.rangeAt b o C.toList) (hS:S w) (h:wpAnyH Tryz.prog .any ops Q S fuel (listed.setIfInBounds i true) (a.put (some d) (.agg C)) w):wpAnyH Tryz.prog .any ops Q S (fuel+1) listed a w:=by
 have hy2:=yieldsIf_load_mid (P:=Tryz.prog) (ops:=ops) (S:=S) (op:=oi) (a:=a) (by simp[Region.wanted,hg]) ty x ho b o hx C.toList td hy hu hrow hi;refine wpAnyH_take q hs hf hr (fun c a w h=>hQ c a w (by rw[hd]at h;exact h)) hy2 hS ?_;rw[hd];exact h
theorem results_cell{fn:Func}{tmps:Array Value}{w:World}{i b:Nat}{t:TypeId}{v:Value}(hr:fn.results= #[.cell i t])(ha:tmps.getD i undef= .pointer (some ⟨b,0,none⟩))(hl:(loadVar t ⟨b,0,none⟩).run Tryz.prog w= .ok v w):(results fn tmps).run Tryz.prog w= .ok v w:=by
 unfold results;rw[hr];simp only[List.mapM_toArray,List.mapM_cons,List.mapM_nil,Sem.run_bind,ha,asAddr,Sem.run_pure];simp[hl]
def regsF(f:Nat→Bool):Array Value:= #[.bool (f 0),.bool (f 1),.bool (f 2),.bool (f 3),.bool (f 4),.bool (f 5),.bool (f 6),.bool (f 7),.bool (f 8),.bool (f 9),.bool (f 10),.bool (f 11),.bool (f 12),.bool (f 13),.bool (f 14),.bool (f 15)]
theorem lt16{k:Nat}(h:k<16):k=0∨k=1∨k=2∨k=3∨k=4∨k=5∨k=6∨k=7∨k=8∨k=9∨k=10∨k=11∨k=12∨k=13∨k=14∨k=15:=by omega
theorem regsF_get(f:Nat→Bool)(k:Nat)(h:k<16):(regsF f)[k]? =some (.bool (f k)):=by
 rcases lt16 h with rfl | rfl | rfl | rfl | rfl | rfl | rfl | rfl | rfl | rfl | rfl | rfl | rfl | rfl | rfl | rfl<;>rfl
theorem regsF_congr{f g:Nat→Bool}(h:∀k,k<16→f k=g k):regsF f=regsF g:=by
 unfold regsF;rw[h 0 (by omega),h 1 (by omega),h 2 (by omega),h 3 (by omega),h 4 (by omega),h 5 (by omega),h 6 (by omega),h 7 (by omega),h 8 (by omega),h 9 (by omega),h 10 (by omega),h 11 (by omega),h 12 (by omega),h 13 (by omega),h 14 (by omega),h 15 (by omega)]
theorem regsF_ones(f:Nat→Bool):(regsF f).all (·.oneCell')=true:=by simp[regsF,Value.oneCell']
abbrev RegsIn(w:World)(b:Nat)(t:TypeId)(f:Nat→Bool):Prop:=CellsAt w b t 16 (fun k=>.bool (f k))
theorem RegsIn.range{w:World}{b:Nat}{t:TypeId}{f:Nat→Bool}(h:RegsIn w b t f):w.rangeAt b 0 (regsF f).toList:=by
 refine CellsAt.range h (by simp[regsF]) ?_;intro j v hj;rw[Array.getElem?_toList]at hj
 have hlt:j<16:=by
  have:=(Array.getElem?_eq_some_iff.1 hj).1;simpa[regsF]using this
 rw[regsF_get f j hlt]at hj;rw[Nat.zero_add];exact Option.some.inj hj
theorem RegsIn.new(f:Nat→Bool)(t:TypeId)(w:World):RegsIn (w.alloc (.cells (regsF f) t)) w.heap.size t f:=CellsAt.new (regsF f) t w _ (fun j hj=>regsF_get f j (by simpa[regsF]using hj))
theorem RegsIn.set{w:World}{b:Nat}{t:TypeId}{f:Nat→Bool}(h:RegsIn w b t f)(k:Nat)(v:Bool):RegsIn (w.setCell ⟨b,k,none⟩ (.bool v)) b t (fun r=>if r=k then v else f r):=
 CellsAt.congr (CellsAt.set h k (.bool v)) (fun j _=>by by_cases e:j=k<;>simp[e])
theorem RegsIn.congr{w:World}{b:Nat}{t:TypeId}{f g:Nat→Bool}(h:RegsIn w b t f)(he:∀k,k<16→f k=g k):RegsIn w b t g:=CellsAt.congr h (fun j hj=>by rw[he j hj])
theorem RegsIn.store{w:World}{b:Nat}{t:TypeId}{f:Nat→Bool}(h:RegsIn w b t f)(g:Nat→Bool):RegsIn (w.setCells b 0 (regsF g).toList) b t g:=by
 refine CellsAt.congr (CellsAt.setCells (regsF g).toList 0 h) (fun j hj=> ?_);rw[if_pos (by simp[regsF];omega),Nat.sub_zero,List.getD_eq_getElem?_getD,Array.getElem?_toList,regsF_get g j hj];rfl
end Code
end Go.Proofs.YtpibampaobncaaaGreatDoor
namespace Go.Proofs.YtpibampaobncaaaGreatDoor
open Go.RowKit
namespace Code
abbrev BoolsIn(w:World)(b n:Nat)(f:Nat→Bool):Prop:=CellsAt w b 4 n (fun k=>.bool (f k))
theorem BoolsIn.congr{w:World}{b n:Nat}{f g:Nat→Bool}(h:BoolsIn w b n f)(he:∀k,k<n→f k=g k):BoolsIn w b n g:=CellsAt.congr h (fun j hj=>by rw[he j hj])
theorem BoolsIn.set{w:World}{b n:Nat}{f:Nat→Bool}(h:BoolsIn w b n f)(k:Nat)(v:Bool):BoolsIn (w.setCell ⟨b,k,none⟩ (.bool v)) b n (fun r=>if r=k then v else f r):=
 CellsAt.congr (CellsAt.set h k (.bool v)) (fun j _=>by by_cases e:j=k<;>simp[e])
theorem bools_made(w:World)(n:Nat)(hl:n≤1000000):∃C,(Instr.makeSlice 47 (.int .i64 ((n:Int)+1)) (.int .i64 ((n:Int)+1))).run Tryz.prog w= .ok (.slice (some ⟨w.heap.size,0,none⟩) (n+1) (n+1)) (w.alloc (.cells C 4))∧
    C.size=n+1∧∀j,j<n+1→C[j]? =some (.bool false):=by
 have hinfo:(Tryz.prog.info? 4).map (fun i=>(i.zero,i.size,i.bytes))=some (some (.bool false),1,1):=by kernel_rfl
 obtain⟨i,hi,hz0,hz1,hz2⟩:=info_parts hinfo;have hr:=run_make (P:=Tryz.prog) w 47 4 i _ Tryz.underlying47 hi hz0 .i64 .i64 ((n:Int)+1) ((n:Int)+1) (by omega) (by omega) (by rw[hz2];omega) (by omega);rw[show((n:Int)+1).toNat=n+1 by omega,hz1]at hr;refine⟨_,hr,by rw[size_madeCells];omega,fun j hj=> ?_⟩;have hs:(Value.bool false).cells= #[.bool false]:=rfl;rw[hs,madeCells,Array.getElem?_map,Array.getElem?_range,if_pos (by omega)]
 have:j%1=0:=by omega
 simp[this]
def BoolsOut(n:Nat)(f:Nat→Bool)(w:World)(e:Ending)(w':World):Prop:=∃b,e= .returned (.slice (some ⟨b,0,none⟩) n n)∧w.heap.size≤b∧BoolsIn w' b n f∧Below w.heap.size w w'
theorem infoI3:(Tryz.prog.info? 3).map (fun i=>(i.zero,i.size,i.bytes))=some (some (.int .i64 0),1,8):=by kernel_rfl
theorem ints_made(w:World)(n:Nat)(hl:n≤1000000):∃C,(Instr.makeSlice 36 (.int .i64 ((n:Int)+1)) (.int .i64 ((n:Int)+1))).run Tryz.prog w= .ok (.slice (some ⟨w.heap.size,0,none⟩) (n+1) (n+1)) (w.alloc (.cells C 3))∧
    C.size=n+1∧∀j,j<n+1→C[j]? =some (.int .i64 0):=by
 obtain⟨i,hi,hz0,hz1,hz2⟩:=info_parts infoI3;have hr:=run_make (P:=Tryz.prog) w 36 3 i _ Tryz.underlying36 hi hz0 .i64 .i64 ((n:Int)+1) ((n:Int)+1) (by omega) (by omega) (by rw[hz2];omega) (by omega);rw[show((n:Int)+1).toNat=n+1 by omega,hz1]at hr;refine⟨_,hr,by rw[size_madeCells];omega,fun j hj=> ?_⟩;have hs:(Value.int .i64 0).cells= #[.int .i64 0]:=rfl;rw[hs,madeCells,Array.getElem?_map,Array.getElem?_range,if_pos (by omega)]
 have:j%1=0:=by omega
 simp[this]
theorem InsAt.grown{w w':World}{b off g:Nat}{x:B.Ins}(h:InsAt w b off x)(hg:w.grownBy w' (some g))(hb:b<w.heap.size)(hne:b≠g):InsAt w' b off x:=by
 have hc:∀o,w'.cell? ⟨b,o,none⟩=w.cell? ⟨b,o,none⟩:=by
  intro o;have:=hg.block b hb (fun e=>hne (Option.some.inj e));simp only[World.cell?,this]
 exact⟨(hc _).trans h.c0,(hc _).trans h.c1,(hc _).trans h.c2,(hc _).trans h.c3,(hc _).trans h.c4⟩
theorem InsAt.other{w:World}{b off:Nat}{x:B.Ins}(h:InsAt w b off x)(a:Addr)(v:Value)(hne:b≠a.block):InsAt (w.setCell a v) b off x:=by
 have hc:∀o,(w.setCell a v).cell? ⟨b,o,none⟩=w.cell? ⟨b,o,none⟩:=by
  intro o;have:=Below.heap_setCell w a v b hne;simp only[World.cell?,this]
 exact⟨(hc _).trans h.c0,(hc _).trans h.c1,(hc _).trans h.c2,(hc _).trans h.c3,(hc _).trans h.c4⟩
theorem row_put{r i M:Nat}{T:TypeId}{w:World}{f:Nat→Value}(h:CellsAt w r T M f)(g:Nat→Bool):CellsAt (w.setCells r (i*16) (regsF g).toList) r T M (fun j=>if j/16=i then .bool (g (j%16))else f j):=by
 refine CellsAt.congr (CellsAt.setCells (regsF g).toList (i*16) h) (fun j hj=> ?_);have hl:(regsF g).toList.length=16:=rfl;rw[hl]
 by_cases e:j/16=i
 ·have e2:i*16≤j∧j<i*16+16:=by omega
  have e3:j-i*16=j%16:=by omega
  rw[if_pos e2,e3,List.getD_eq_getElem?_getD,Array.getElem?_toList,regsF_get g _ (by omega),if_pos e];rfl
 ·have e2:¬(i*16≤j∧j<i*16+16):=by omega
  rw[if_neg e2,if_neg e]
theorem wf_right{x:B.Ins}(h:x.right=true):x.Wf:=by
 have:=B.right_bounds h
 refine⟨⟨?_, ?_⟩,⟨?_, ?_⟩,⟨?_, ?_⟩,⟨?_, ?_⟩,⟨?_, ?_⟩⟩<;>omega
end Code
end Go.Proofs.YtpibampaobncaaaGreatDoor
namespace Go.Proofs.YtpibampaobncaaaGreatDoor
open Go.RowKit
namespace Code
def RegsOut(f:Nat→Bool)(w:World)(e:Ending)(w':World):Prop:=e= .returned (.agg (regsF f))∧Below w.heap.size w w'
def aheadF(x:B.Ins)(f:Nat→Bool)(r:Nat):Bool:=x.reads r||(f r&& !x.writes r)
end Code
end Go.Proofs.YtpibampaobncaaaGreatDoor
