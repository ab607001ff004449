/- Small lemmas: a block whose cells are known one by one, as a function of the place; sixteen truths by value. -/
import Derived.Test.YtljhklblbafjkaaGreatDoorBaseQ
import Derived.Deep.MidRow
import Derived.Deep.RegionHeld
import Derived.Laws.MakeOwn
import Derived.Deep.DeepAppendRoom
import Derived.ArgAppend
namespace Go.Proofs.YtljhklblbafjkaaGreatDoor
open Go.RowKit
namespace Code
def CellsAt(w:World)(b:Nat)(t:TypeId)(n:Nat)(f:Nat→Value):Prop:=∃C,w.heap[b]? =some (.cells C t (0,0))∧C.size=n∧∀j,j<n→C[j]? =some (f j)
theorem CellsAt.cell{w:World}{b n:Nat}{t:TypeId}{f:Nat→Value}(h:CellsAt w b t n f){j:Nat}(hj:j<n):w.cell? ⟨b,j,none⟩=some (f j):=by
 obtain⟨C,h1,_,h3⟩:=h;rw[cell_of_row _ _ _ _ _ _ h1];exact h3 j hj
theorem CellsAt.free{w:World}{b n:Nat}{t:TypeId}{f:Nat→Value}(h:CellsAt w b t n f)(j:Nat):w.frozen? ⟨b,j,none⟩=false:=by
 obtain⟨C,h1,_⟩:=h;exact frozen_blk h1
theorem CellsAt.blk{w:World}{b n:Nat}{t:TypeId}{f:Nat→Value}(h:CellsAt w b t n f):b<w.heap.size:=by
 obtain⟨C,h1,_⟩:=h;exact lt_of_block h1
theorem CellsAt.of{w w':World}{b n:Nat}{t:TypeId}{f:Nat→Value}(h:CellsAt w b t n f)(he:w'.heap[b]? =w.heap[b]?):CellsAt w' b t n f:=by
 obtain⟨C,h1,h2,h3⟩:=h;exact⟨C,he.trans h1,h2,h3⟩
theorem CellsAt.below{w w':World}{b n N:Nat}{t:TypeId}{f:Nat→Value}(h:CellsAt w b t n f)(hb:Below N w w')(hN:b<N):CellsAt w' b t n f:=h.of (hb.block b hN)
theorem CellsAt.alloc{w:World}{b n:Nat}{t:TypeId}{f:Nat→Value}(h:CellsAt w b t n f)(o:Obj):CellsAt (w.alloc o) b t n f:=
 h.below ((Below.refl w.heap.size w).alloc (Nat.le_refl _) o) h.blk
theorem CellsAt.grown{w w':World}{b g n:Nat}{t:TypeId}{f:Nat→Value}(h:CellsAt w b t n f)(hg:w.grownBy w' (some g))(hne:b≠g):CellsAt w' b t n f:=
 h.of (hg.block b h.blk (fun e=>hne (Option.some.inj e)))
theorem CellsAt.congr{w:World}{b n:Nat}{t:TypeId}{f g:Nat→Value}(h:CellsAt w b t n f)(he:∀j,j<n→f j=g j):CellsAt w b t n g:=by
 obtain⟨C,h1,h2,h3⟩:=h;exact⟨C,h1,h2,fun j hj=>by rw[←he j hj];exact h3 j hj⟩
theorem CellsAt.set{w:World}{b n:Nat}{t:TypeId}{f:Nat→Value}(h:CellsAt w b t n f)(k:Nat)(v:Value):CellsAt (w.setCell ⟨b,k,none⟩ v) b t n (fun j=>if j=k then v else f j):=by
 obtain⟨C,h1,h2,h3⟩:=h;refine⟨_,blk_setCell h1 v,by simp[h2],fun j hj=> ?_⟩
 by_cases e:j=k
 ·subst e
  rw[Array.getElem?_setIfInBounds_self_of_lt (by omega)];simp
 ·rw[Array.getElem?_setIfInBounds_ne (Ne.symm e)]
  simp only[if_neg e];exact h3 j hj
theorem CellsAt.other{w:World}{b n:Nat}{t:TypeId}{f:Nat→Value}(h:CellsAt w b t n f)(a:Addr)(v:Value)(hne:b≠a.block):CellsAt (w.setCell a v) b t n f:=h.of (blk_other v hne)
theorem CellsAt.drew{w:World}{b n:Nat}{t:TypeId}{f:Nat→Value}(h:CellsAt w b t n f)(k:Nat):CellsAt (w.drewN k) b t n f:=h.of (by
 have:∀k,(w.drewN k).heap=w.heap:=by
  intro k
  induction k with
  | zero=>rfl
  | succ k ih=>exact ih
 rw[this])
theorem grownBy_setCells(b:Nat):∀(vs:List Value) (o:Nat) (w:World),w.grownBy (w.setCells b o vs) (some b)
 | [],_,w=>World.grownBy.refl _ _
 | v::vs,o,w=>(show w.grownBy (w.setCell ⟨b,o,none⟩ v) (some b)from⟨rfl,rfl,rfl,by simp[World.setCell],fun k _ hk=>Below.heap_setCell _ _ _ _ (fun e=>hk (by rw[e]))⟩).trans (grownBy_setCells b vs (o+1) (w.setCell ⟨b,o,none⟩ v))
theorem CellsAt.setCells{b n:Nat}{t:TypeId}:∀(vs:List Value) (o:Nat) {w:World} {f:Nat→Value},CellsAt w b t n f→CellsAt (w.setCells b o vs) b t n (fun j=>if o≤j∧j<o+vs.length then vs.getD (j-o) undef else f j)
 | [],o,w,f,h=>h.congr (fun j _=>by rw[if_neg (by simp<;>omega)])
 | v::vs,o,w,f,h=>by
  have h1:=CellsAt.setCells vs (o+1) (h.set o v);refine CellsAt.congr h1 (fun j _=> ?_);simp only[List.length_cons]
  by_cases e:j=o
  ·subst e
   rw[if_neg (by omega),if_pos rfl,if_pos (by omega),Nat.sub_self];rfl
  ·by_cases h2:o+1≤j∧j<o+1+vs.length
   ·rw[if_pos h2,if_pos (by omega),show j-o=(j-(o+1))+1 by omega,List.getD_cons_succ]
   ·rw[if_neg h2,if_neg e,if_neg (by omega)]
theorem CellsAt.there{w:World}{b n:Nat}{t:TypeId}{f:Nat→Value}(h:CellsAt w b t n f){o m:Nat}(hm:o+m≤n):w.there b o m:=fun j hj=>⟨by rw[h.cell (by omega)];rfl,h.free _⟩
theorem CellsAt.range{w:World}{b n:Nat}{t:TypeId}{f:Nat→Value}(h:CellsAt w b t n f){o:Nat}{vs:List Value}(hm:o+vs.length≤n)(hv:∀j v,vs[j]? =some v→f (o+j)=v):w.rangeAt b o vs:=by
 intro j v hj;have:=(List.getElem?_eq_some_iff.1 hj).1;rw[h.cell (by omega),hv j v hj]
theorem CellsAt.new(C:Array Value)(t:TypeId)(w:World)(f:Nat→Value)(hf:∀j,j<C.size→C[j]? =some (f j)):CellsAt (w.alloc (.cells C t)) w.heap.size t C.size f:=⟨C,heap_alloc_new w _,rfl,hf⟩
theorem takeS{ops:Array Oper}{Q:Exit→Act→World→Prop}{S:World→Prop}{i d fuel:Nat}{listed:Array Bool}{oi:Oper}{v:Value}{a:Act}{w:World}(q:ops[i]? =some oi)(hd:oi.dst=some d)(hg:oi.guard=none)
    (hs:Region.noSelect ops=true) (hf:Region.free .any ops listed i=true) (hr:(Region.ready .any ops listed).contains i=true) (hQ:∀c a w,Q (.panic c) (a.put (some d) v) w→Q (.panic c) a w)
    (hy:∀w',S w'→(execOp a.eval oi).run Tryz.prog w'= .ok (.value v) w') (hS:S w) (h:wpAnyH Tryz.prog .any ops Q S fuel (listed.setIfInBounds i true) (a.put (some d) v) w):wpAnyH Tryz.prog .any ops Q S (fuel+1) listed a w:=by
 refine wpAnyH_take q hs hf hr (fun c a w h=>hQ c a w (by rw[hd]at h;exact h)) (Or.inl ⟨by simp[Region.wanted,hg],fun w' hw=>hy w' hw⟩) hS ?_;rw[hd];exact h
theorem takeM{ops:Array Oper}{Q:Exit→Act→World→Prop}{S:World→Prop}{i d fuel:Nat}{listed:Array Bool}{oi:Oper}{a:Act}{w:World}(ty:TypeId)(x:Operand)(b o:Nat)(C:Array Value)(td:TypeDesc)(q:ops[i]? =some oi)(hd:oi.dst=some d)(hg:oi.guard=none)(ho:oi.op= .load ty x)
    (hx:a.eval x= .pointer (some ⟨b,o,none⟩)) (hu:Tryz.prog.underlying ty=some td) (hrow:td.isRow=true) (hi:(Tryz.prog.info? ty).map (·.size)=some C.toList.length)
    (hs:Region.noSelect ops=true) (hf:Region.free .any ops listed i=true) (hr:(Region.ready .any ops listed).contains i=true) (hQ:∀c a w,Q (.panic c) (a.put (some d) (.agg C)) w→Q (.panic c) a w)
    (hy:∀w',S w'→w'.rangeAt b o C.toList) (hS:S w) (h:wpAnyH Tryz.prog .any ops Q S fuel (listed.setIfInBounds i true) (a.put (some d) (.agg C)) w):wpAnyH Tryz.prog .any ops Q S (fuel+1) listed a w:=by
 have hy2:=yieldsIf_load_mid (P:=Tryz.prog) (ops:=ops) (S:=S) (op:=oi) (a:=a) (by simp[Region.wanted,hg]) ty x ho b o hx C.toList td hy hu hrow hi;refine wpAnyH_take q hs hf hr (fun c a w h=>hQ c a w (by rw[hd]at h;exact h)) hy2 hS ?_;rw[hd];exact h
theorem results_cell{fn:Func}{tmps:Array Value}{w:World}{i b:Nat}{t:TypeId}{v:Value}(hr:fn.results= #[.cell i t])(ha:tmps.getD i undef= .pointer (some ⟨b,0,none⟩))(hl:(loadVar t ⟨b,0,none⟩).run Tryz.prog w= .ok v w):(results fn tmps).run Tryz.prog w= .ok v w:=by
 unfold results;rw[hr];simp only[List.mapM_toArray,List.mapM_cons,List.mapM_nil,Sem.run_bind,ha,asAddr,Sem.run_pure];simp[hl]
def regsF(f:Nat→Bool):Array Value:= #[.bool (f 0),.bool (f 1),.bool (f 2),.bool (f 3),.bool (f 4),.bool (f 5),.bool (f 6),.bool (f 7),.bool (f 8),.bool (f 9),.bool (f 10),.bool (f 11),.bool (f 12),.bool (f 13),.bool (f 14),.bool (f 15)]
theorem lt16{k:Nat}(h:k<16):k=0∨k=1∨k=2∨k=3∨k=4∨k=5∨k=6∨k=7∨k=8∨k=9∨k=10∨k=11∨k=12∨k=13∨k=14∨k=15:=by omega
theorem regsF_get(f:Nat→Bool)(k:Nat)(h:k<16):(regsF f)[k]? =some (.bool (f k)):=by
 rcases lt16 h with rfl | rfl | rfl | rfl | rfl | rfl | rfl | rfl | rfl | rfl | rfl | rfl | rfl | rfl | rfl | rfl<;>rfl
abbrev RegsIn(w:World)(b:Nat)(t:TypeId)(f:Nat→Bool):Prop:=CellsAt w b t 16 (fun k=>.bool (f k))
theorem RegsIn.range{w:World}{b:Nat}{t:TypeId}{f:Nat→Bool}(h:RegsIn w b t f):w.rangeAt b 0 (regsF f).toList:=by
 refine CellsAt.range h (by simp[regsF]) ?_;intro j v hj;rw[Array.getElem?_toList]at hj
 have hlt:j<16:=by
  have:=(Array.getElem?_eq_some_iff.1 hj).1;simpa[regsF]using this
 rw[regsF_get f j hlt]at hj;rw[Nat.zero_add];exact Option.some.inj hj
theorem RegsIn.new(f:Nat→Bool)(t:TypeId)(w:World):RegsIn (w.alloc (.cells (regsF f) t)) w.heap.size t f:=CellsAt.new (regsF f) t w _ (fun j hj=>regsF_get f j (by simpa[regsF]using hj))
theorem RegsIn.set{w:World}{b:Nat}{t:TypeId}{f:Nat→Bool}(h:RegsIn w b t f)(k:Nat)(v:Bool):RegsIn (w.setCell ⟨b,k,none⟩ (.bool v)) b t (fun r=>if r=k then v else f r):=
 CellsAt.congr (CellsAt.set h k (.bool v)) (fun j _=>by by_cases e:j=k<;>simp[e])
theorem RegsIn.congr{w:World}{b:Nat}{t:TypeId}{f g:Nat→Bool}(h:RegsIn w b t f)(he:∀k,k<16→f k=g k):RegsIn w b t g:=CellsAt.congr h (fun j hj=>by rw[he j hj])
theorem RegsIn.store{w:World}{b:Nat}{t:TypeId}{f:Nat→Bool}(h:RegsIn w b t f)(g:Nat→Bool):RegsIn (w.setCells b 0 (regsF g).toList) b t g:=by
 refine CellsAt.congr (CellsAt.setCells (regsF g).toList 0 h) (fun j hj=> ?_);rw[if_pos (by simp[regsF];omega),Nat.sub_zero,List.getD_eq_getElem?_getD,Array.getElem?_toList,regsF_get g j hj];rfl
end Code
end Go.Proofs.YtljhklblbafjkaaGreatDoor
namespace Go.Proofs.YtljhklblbafjkaaGreatDoor
open Go.RowKit
namespace Code
namespace One
structure OwnV(E:TypeId)(w:World)(base:Nat)(ao:Option Addr)(n cap:Nat)(vs:List Value):Prop where
 len:n=vs.length
 own:w.ownsRow base E 1 (.slice ao n cap) n vs
theorem OwnV.nil(E:TypeId)(w:World)(base:Nat):OwnV E w base none 0 0 []:=⟨rfl,World.ownsRow_nil _ _ _ _⟩
theorem OwnV.kept{E:TypeId}{w w':World}{base:Nat}{ao:Option Addr}{n cap:Nat}{vs:List Value}(h:OwnV E w base ao n cap vs)(hb:Below w.heap.size w w'):OwnV E w' base ao n cap vs:=
 ⟨h.len,h.own.kept (row:=none) ⟨hb.os,hb.tape,hb.output,hb.size,fun k hk _=>hb.block k hk⟩ (by cases ao<;>simp[Value.ownBlock])⟩
theorem OwnV.keep{E:TypeId}{w w':World}{base n cap:Nat}{ao:Option Addr}{vs:List Value}(h:OwnV E w base ao n cap vs)(he:∀g,ao=some ⟨g,0,none⟩→w'.heap[g]? =w.heap[g]?):OwnV E w' base ao n cap vs:=by
 refine⟨h.len,h.own.1, ?_⟩;rcases h.own.2 with h2 | ⟨g',c,cur,e,hb,hh,h3⟩
 ·exact .inl h2
 ·refine .inr ⟨g',c,cur,e,hb, ?_,h3⟩
  injection e with e _ _;exact(he g' e).trans hh
theorem OwnV.weaken{E:TypeId}{w:World}{base base':Nat}{ao:Option Addr}{n cap:Nat}{vs:List Value}(h:OwnV E w base ao n cap vs)(hb:base'≤base):OwnV E w base' ao n cap vs:=by
 refine⟨h.len,h.own.1, ?_⟩;rcases h.own.2 with h0 | ⟨g,c,cur,h1,h2,h3⟩
 ·exact .inl h0
 ·exact .inr ⟨g,c,cur,h1,Nat.le_trans hb h2,h3⟩
theorem OwnV.form{E:TypeId}{w:World}{base n cap:Nat}{ao:Option Addr}{vs:List Value}(h:OwnV E w base ao n cap vs):(ao=none∧n=0∧cap=0)∨∃g,ao=some ⟨g,0,none⟩∧base≤g∧g<w.heap.size:=by
 rcases h.own.2 with⟨h0,h1⟩ | ⟨g,c,cur,e,hb,hh,h3⟩
 ·injection h0 with e1 e2 e3
  exact .inl ⟨e1,h1,e3⟩
 ·have hh2:=lt_of_block hh
  injection e with e _ _;exact .inr ⟨g,e,hb,hh2⟩
theorem OwnV.cell{E:TypeId}{w:World}{base n cap:Nat}{ao:Option Addr}{vs:List Value}(h:OwnV E w base ao n cap vs){i:Nat}{v:Value}(hv:vs[i]? =some v):
    ∃g,ao=some ⟨g,0,none⟩∧base≤g∧g<w.heap.size∧w.cell? ⟨g,i,none⟩=some v:=by
 have hi:=(List.getElem?_eq_some_iff.1 hv).1;rcases h.form with⟨_,h0,_⟩ | ⟨g,rfl,hg,hw⟩
 ·have:=h.len;omega
 ·exact⟨g,rfl,hg,hw,by rw[World.ownsRow.cellAt h.own i (by have:=h.len;omega),hv]⟩
theorem OwnV.capLe{E:TypeId}{w:World}{base:Nat}{ao:Option Addr}{n cap:Nat}{vs:List Value}(h:OwnV E w base ao n cap vs):n≤cap:=by
 rcases h.own.2 with⟨hv,hn⟩ | ⟨g,cap',cur,hv,hg,hh,hle,_⟩
 ·omega
 ·cases hv;exact hle
theorem OwnV.capMax{E:TypeId}{w:World}{base:Nat}{ao:Option Addr}{n cap:Nat}{vs:List Value}(h:OwnV E w base ao n cap vs):cap≤9223372036854775807:=by
 rcases h.own.2 with⟨hv,hn⟩ | ⟨g,cap',cur,hv,hg,hh,hle,hm,_⟩
 ·cases hv;omega
 ·cases hv;exact hm
theorem OwnV.take{E:TypeId}{w:World}{base n cap m:Nat}{ao:Option Addr}{vs:List Value}(h:OwnV E w base ao n cap vs)(hm:m≤n):OwnV E w base ao m cap (vs.take m):=by
 have hl:m=(vs.take m).length:=by rw[List.length_take,←h.len];omega
 refine⟨hl,by rw[Nat.mul_one];exact hl.symm, ?_⟩;rcases h.own.2 with⟨h0,h1⟩ | ⟨g,c,cur,e,hb,hh,hnc,hcm,hcs,htake⟩
 ·injection h0 with e1 e2 e3
  have hm0:m=0:=by omega
  exact .inl ⟨by rw[e1,hm0,e3],hm0⟩
 ·injection e with e1 e2 e3
  refine .inr ⟨g,c,cur,by rw[e1,e3],hb,hh,by omega,hcm,hcs, ?_⟩;rw[←htake,List.take_take,Nat.mul_one,Nat.mul_one,Nat.min_eq_left hm]
theorem OwnV.put{E:TypeId}{w:World}{base g n cap:Nat}{vs:List Value}(h:OwnV E w base (some ⟨g,0,none⟩) n cap vs)(j:Nat)(v:Value):OwnV E (w.setCell ⟨g,j,none⟩ v) base (some ⟨g,0,none⟩) n cap (vs.set j v):=
 ⟨by rw[List.length_set];exact h.len,(World.ownsRow.stored h.own j v).1⟩
theorem app_one{T E:TypeId}{z:Value}{bytes:Nat}(hu:Tryz.prog.underlying T=some (.slice E))(hinfo:(Tryz.prog.info? E).map (fun i=>(i.zero,i.size,i.bytes))=some (some z,1,bytes))(hzs:z.cells.size=1)
    {ops:Array Oper} {rest:List Oper} {o:Oper} {a:Act} {Q:Exit→Act→World→Prop} {w:World} (hgd:o.guard=none) (s x:Operand)
    (ho:o.op= .call { callee:=.builtin .append,args:= #[s,x],argTypes:= #[T,T]})
    (base:Nat) {ao:Option Addr} {n cap:Nat} {vs:List Value} {v:Value} (hs:a.eval s= .slice ao n cap) (hown:OwnV E w base ao n cap vs) (hv:v.oneCell'=true)
    (hx:a.eval x= .slice (some ⟨w.heap.size,0,none⟩) 1 1) (hmax:n+1≤9223372036854775807) (hbytes:(n+1)*bytes≤140737488355328) (hbase:base≤w.heap.size)
    (h:∀ao' cap' w',OwnV E w' base ao' (n+1) cap' (vs++[v])→(∀b,b<w.heap.size→ao≠some ⟨b,0,none⟩→w'.heap[b]? =w.heap[b]?)→
     ((ao'=ao∧cap'=cap)∨((∃g,ao'=some ⟨g,0,none⟩∧w.heap.size≤g)∧∀b,b<w.heap.size→w'.heap[b]? =w.heap[b]?))→Below base w w'→wpList Tryz.prog ops Q rest (a.put o.dst (.slice ao' (n+1) cap')) w'):
    wpList Tryz.prog ops Q (o::rest) a (w.alloc (.cells #[v] E)):=by
 obtain⟨i,hi,hz0,hz1,hz2⟩:=info_parts hinfo
 have hnews:∀(j:Nat) u,([v]:List Value)[j]? =some u→(w.alloc (.cells #[v] E)).cell? ((⟨w.heap.size,0,none⟩:Addr).add j)=some u:=by
  intro j u hu
  have e:(⟨w.heap.size,0,none⟩:Addr).add j=⟨w.heap.size,j,none⟩:=by unfold Addr.add;split<;>simp_all
  rw[e,cell_of_row _ _ _ _ _ _ (heap_alloc_new w _)];simpa using hu
 have hones:∀u∈([v]:List Value),u.oneCell'=true:=fun u hu=>by rw[List.mem_singleton.1 hu];exact hv
 have hqa:=hown.own.alloc (.cells #[v] E);have hba:Below base w (w.alloc (.cells #[v] E)):=(Below.refl base w).alloc hbase _
 by_cases hroom:n+1≤cap
 ·rcases hown.form with⟨_,_,e3⟩ | ⟨g,rfl,hgb,hgw⟩
  ·omega
  ·refine wpList_append_own_spare _ hgd s x T ho base E i 1 hu hi hz1 g n cap vs hs hqa ⟨w.heap.size,0,none⟩ 1 1 [v] hx rfl hnews hones hroom ?_
   intro w' hown' hg;refine h _ _ w' ⟨by rw[List.length_append,←hown.len];rfl,hown'⟩ (fun b hb hne=> ?_) (.inl ⟨rfl,rfl⟩) (hba.grown hg (by simp;omega) (fun k hk=>by have:=Option.some.inj hk;omega));exact(hg.block b (by simp;omega) (fun e=>hne (by rw[Option.some.inj e]))).trans (heap_alloc_old _ _ hb)
 ·refine wpList_append_grows _ hgd s x T ho E i _ 1 bytes hu hi hz0 hz1 hz2 hzs (by decide) ao n cap vs hs (fun e=> ?_) (by rw[Nat.mul_one];exact hown.len.symm) (fun b e j u hu=> ?_) ⟨w.heap.size,0,none⟩ 1 1 [v] hx rfl hnews hones (by omega) (by simp only[maxLen];omega) hbytes ?_
  ·rcases hown.form with⟨_,e2,e3⟩ | ⟨g,e1,_⟩
   ·exact⟨e2,e3⟩
   ·rw[e]at e1;cases e1
  ·rcases hown.form with⟨e1,_⟩ | ⟨g,e1,_⟩
   ·rw[e]at e1;cases e1
   ·rw[e]at e1
    have e4:=Option.some.inj e1;subst e4;rw[e]at hqa;exact hqa.cells (g:=g) rfl j u hu
  ·intro v' w' hown' hg
   rcases hown'.2 with⟨_,hn⟩ | ⟨g,cap',cur,rfl,hbg,rest'⟩
   ·omega
   ·have hbg2:w.heap.size≤g:=by simp at hbg;omega
    refine h _ _ w' (OwnV.weaken (base:=(w.alloc (.cells #[v] E)).heap.size) ⟨by rw[List.length_append,←hown.len];rfl,hown'⟩ (by simp;omega)) (fun b hb _=> ?_) (.inr ⟨⟨g,rfl,hbg2⟩,fun b hb=> ?_⟩) (hba.grown hg (by simp;omega) (fun k hk=>by cases hk))
    ·exact(hg.block b (by simp;omega) (by simp)).trans (heap_alloc_old _ _ hb)
    ·exact(hg.block b (by simp;omega) (by simp)).trans (heap_alloc_old _ _ hb)
structure Lists(E T:TypeId)(N L:Nat)(A:Nat→Option Addr)(n c:Nat→Nat)(X:Nat→List Value)(w:World):Prop where
 tab:∃Cs:Array Value,w.heap[L]? =some (.cells Cs T (0,0))∧Cs[0]? =some (.slice (A 0) (n 0) (c 0))∧Cs[1]? =some (.slice (A 1) (n 1) (c 1))
 own:∀k,k<2→OwnV E w N (A k) (n k) (c k) (X k)
 ne:∀j k g,j<2→k<2→j≠k→A j=some ⟨g,0,none⟩→A k≠some ⟨g,0,none⟩
 ty:E≠T
section
variable {E T:TypeId} {V:Nat→Nat→Value} {N L Z:Nat} {A:Nat→Option Addr} {n c:Nat→Nat} {X X':Nat→List Value} {w w':World}
theorem Lists.cell(h:Lists E T N L A n c X w){k:Nat}(hk:k<2):w.cell? ⟨L,k,none⟩=some (.slice (A k) (n k) (c k)):=by
 obtain⟨Cs,hC,h0,h1⟩:=h.tab;rw[cell_of_row _ _ _ _ _ _ hC]
 have:k=0∨k=1:=by omega
 rcases this with rfl | rfl
 ·exact h0
 ·exact h1
theorem Lists.tabLt(h:Lists E T N L A n c X w):L<w.heap.size:=by
 obtain⟨Cs,hC,_⟩:=h.tab;exact lt_of_block hC
theorem Lists.tabOf(h:Lists E T N L A n c X w)(he:w'.heap[L]? =w.heap[L]?):∃Cs:Array Value,w'.heap[L]? =some (.cells Cs T (0,0))∧Cs[0]? =some (.slice (A 0) (n 0) (c 0))∧Cs[1]? =some (.slice (A 1) (n 1) (c 1)):=by
 obtain⟨Cs,hC,h0,h1⟩:=h.tab;exact⟨Cs,he.trans hC,h0,h1⟩
theorem Lists.below(h:Lists E T N L A n c X w)(hb:Below w.heap.size w w'):Lists E T N L A n c X w':=
 ⟨h.tabOf (hb.block L h.tabLt),fun k hk=>(h.own k hk).kept hb,h.ne,h.ty⟩
theorem Lists.congr(h:Lists E T N L A n c X w)(he:∀k,k<2→X k=X' k):Lists E T N L A n c X' w:=
 ⟨h.tab,fun k hk=>by rw[←he k hk];exact h.own k hk,h.ne,h.ty⟩
theorem Lists.lt(h:Lists E T N L A n c X w){j g:Nat}(hj:j<2)(hg:A j=some ⟨g,0,none⟩):N≤g∧g<w.heap.size:=by
 have:=h.own j hj;rw[hg]at this;exact this.own.lt g rfl
theorem Lists.far(h:Lists E T N L A n c X w){k g:Nat}(hk:k<2)(hA:A k=some ⟨g,0,none⟩):L≠g:=by
 have ho:=h.own k hk;rw[hA]at ho;obtain⟨Cs,hC,_⟩:=h.tab;have:=own_ne ho.own hC h.ty;intro e;apply this;rw[e];rfl
theorem Lists.put(h:Lists E T N L A n c X w){k g:Nat}(hk:k<2)(hA:A k=some ⟨g,0,none⟩)(j:Nat)(v:Value):
    Lists E T N L A n c (fun q=>if q=k then(X k).set j v else X q) (w.setCell ⟨g,j,none⟩ v):=by
 have ho:=h.own k hk;rw[hA]at ho;refine⟨h.tabOf (blk_other v (h.far hk hA)),fun q hq=> ?_,h.ne,h.ty⟩
 by_cases e:q=k
 ·subst e
  simp only[if_true];rw[hA];exact ho.put j v
 ·simp only[if_neg e]
  refine(h.own q hq).keep (fun g' hg'=>blk_other v ?_);intro e2;simp only at e2;subst e2;exact h.ne q k g' hq hk e hg' hA
theorem Lists.blk(h:Lists E T N L A n c X w){k i:Nat}(hk:k<2)(hi:i<n k):∃g,A k=some ⟨g,0,none⟩∧N≤g∧g<w.heap.size:=by
 rcases(h.own k hk).form with⟨_,h0,_⟩ | ⟨g,e,h1,h2⟩
 ·omega
 ·exact⟨g,e,h1,h2⟩
theorem Lists.app(h:Lists E T N L A n c X w){k m cap cap':Nat}{ao ao':Option Addr}{vs vs':List Value}(hk:k<2)(hm:n k≤m)
    (hl:(ao=A k∧cap=c k)∨(∃g,ao=some ⟨g,0,none⟩∧∀j,j<2→A j≠some ⟨g,0,none⟩)) (hao:OwnV E w N ao m cap vs) (hown':OwnV E w' N ao' (m+1) cap' vs') (hvs:vs'.take (n k)=X k)
    (hkeep:∀b,b<w.heap.size→ao≠some ⟨b,0,none⟩→w'.heap[b]? =w.heap[b]?) (hat:(ao'=ao∧cap'=cap)∨∀b,b<w.heap.size→w'.heap[b]? =w.heap[b]?):Lists E T N L A n c X w':=by
 have hblk:∀j,j<2→∀g,A j=some ⟨g,0,none⟩→g<w.heap.size:=fun j hj g hg=>(h.lt hj hg).2
 refine⟨h.tabOf (hkeep L h.tabLt ?_),fun j hj=> ?_,h.ne,h.ty⟩
 ·intro e
  rw[e]at hao;obtain⟨Cs,hC,_⟩:=h.tab;exact own_ne hao.own hC h.ty rfl
 ·by_cases e:j=k
  ·subst e
   rcases hat with⟨rfl,rfl⟩ | hall
   ·rcases hl with⟨rfl,rfl⟩ | ⟨g,rfl,hfar⟩
    ·have:=hown'.take (m:=n j) (by omega)
     rw[hvs]at this;exact this
    ·exact(h.own j hj).keep (fun g' hg'=>hkeep g' (hblk j hj g' hg') (fun e=>hfar j hj (by rw[hg',e])))
   ·exact(h.own j hj).keep (fun g' hg'=>hall g' (hblk j hj g' hg'))
  ·refine(h.own j hj).keep (fun g' hg'=>hkeep g' (hblk j hj g' hg') (fun e2=> ?_))
   rcases hl with⟨rfl,_⟩ | ⟨g,rfl,hfar⟩
   ·exact h.ne j k g' hj hk e hg' e2
   ·exact hfar j hj (by rw[hg',e2])
structure Grw(E T:TypeId)(N L Z:Nat)(A:Nat→Option Addr)(n c:Nat→Nat)(X:Nat→List Value)(M:Nat→List Value)(G:Nat→Option Addr)(C:Nat→Nat)(k:Nat)(v:Value)(w:World):Prop where
 ls:Lists E T N L A n c X w
 new:∀j,j<k→OwnV E w N (G j) (n j+64) (C j) (X j++M j)
 far:∀j m g,j<k→k≤m→m<2→G j=some ⟨g,0,none⟩→A m≠some ⟨g,0,none⟩
 sep:∀i j g,i<k→j<k→i≠j→G i=some ⟨g,0,none⟩→G j≠some ⟨g,0,none⟩
 lies:∀j,j<k→G j=A j∨∃g,G j=some ⟨g,0,none⟩∧Z≤g
 gs:w.ownsRow Z T 1 v k ((List.range k).map fun j=>.slice (G j) (n j+64) (C j))
theorem own_own_ne{w:World}{base base' E E' size size' n n':Nat}{v v':Value}{xs xs':List Value}(h:w.ownsRow base E size v n xs)(h':w.ownsRow base' E' size' v' n' xs')(hne:E≠E'){b:Nat}(hb:v'.ownBlock=some b):v.ownBlock≠some b:=by
 rcases h'.2 with⟨rfl,_⟩ | ⟨g,cap,cur,rfl,_,hh,_⟩
 ·cases hb
 ·have:g=b:=Option.some.inj hb
  subst this;exact own_ne h hh hne
theorem own_keepV{w w':World}{base E size n:Nat}{v:Value}{xs:List Value}(h:w.ownsRow base E size v n xs)(hg:∀k,v.ownBlock=some k→w'.heap[k]? =w.heap[k]?):w'.ownsRow base E size v n xs:=by
 refine⟨h.1, ?_⟩;rcases h.2 with h2 | ⟨g,cap,cur,rfl,hb,hh,h3⟩
 ·exact .inl h2
 ·exact .inr ⟨g,cap,cur,rfl,hb,(hg g rfl).trans hh,h3⟩
structure Rg(E T:TypeId)(N L:Nat)(A:Nat→Option Addr)(n c:Nat→Nat)(X:Nat→List Value)(M:Nat→List Value)(k i:Nat)(ao:Option Addr)(cap:Nat)(wo wy:World):Prop where
 ls:Lists E T N L A n c X wy
 own:OwnV E wy N ao (n k+i) cap (X k++(M k).take i)
 keep:∀b,b<wo.heap.size→A k≠some ⟨b,0,none⟩→wy.heap[b]? =wo.heap[b]?
 lies:(ao=A k∧cap=c k)∨∃g,ao=some ⟨g,0,none⟩∧wo.heap.size≤g
 bel:Below N wo wy
variable {M:Nat→List Value} {G:Nat→Option Addr} {C:Nat→Nat}
theorem Rg.start{k:Nat}{wo:World}(h:Lists E T N L A n c X wo)(hk:k<2):Rg E T N L A n c X M k 0 (A k) (c k) wo wo:=
 ⟨h,by rw[List.take_zero,List.append_nil];exact h.own k hk,fun _ _ _=>rfl,.inl ⟨rfl,rfl⟩,Below.refl _ _⟩
theorem Rg.next{k i:Nat}{ao ao':Option Addr}{cap cap':Nat}{wo wy w5 w6:World}(h:Rg E T N L A n c X M k i ao cap wo wy)(hk:k<2)(hA:∀j g,j<2→A j=some ⟨g,0,none⟩→g<wo.heap.size)
    (hb5:Below wy.heap.size wy w5) (hown':OwnV E w6 N ao' (n k+i+1) cap' (X k++(M k).take (i+1))) (hkeep:∀b,b<w5.heap.size→ao≠some ⟨b,0,none⟩→w6.heap[b]? =w5.heap[b]?)
    (hat:(ao'=ao∧cap'=cap)∨((∃g,ao'=some ⟨g,0,none⟩∧w5.heap.size≤g)∧∀b,b<w5.heap.size→w6.heap[b]? =w5.heap[b]?)) (hb6:Below N w5 w6) (hN:N≤wo.heap.size):Rg E T N L A n c X M k (i+1) ao' cap' wo w6:=by
 have hsy:wo.heap.size≤wy.heap.size:=h.bel.size;have hs5:wy.heap.size≤w5.heap.size:=hb5.size
 have hl:(ao=A k∧cap=c k)∨(∃g,ao=some ⟨g,0,none⟩∧∀j,j<2→A j≠some ⟨g,0,none⟩):=by
  rcases h.lies with h1 | ⟨g,hg,hge⟩
  ·exact .inl h1
  ·exact .inr ⟨g,hg,fun j hj e=>by have:=hA j g hj e;omega⟩
 have hxl:=(h.ls.own k hk).len;refine⟨Lists.app (h.ls.below hb5) hk (Nat.le_add_right _ i) hl (h.own.kept hb5) hown' (by rw[List.take_append_of_le_length (by omega),List.take_of_length_le (by omega)]) hkeep (hat.imp id (fun h=>h.2)),hown',fun b hb hne=> ?_, ?_,(h.bel.trans (hb5.mono (by omega))).trans hb6⟩
 ·have e5:w5.heap[b]? =wo.heap[b]? :=(hb5.block b (by omega)).trans (h.keep b hb hne)
  refine(hkeep b (by omega) (fun e=> ?_)).trans e5;rcases h.lies with⟨h1,_⟩ | ⟨g,hg,hge⟩
  ·exact hne (by rw[←h1,e])
  ·rw[hg]at e
   have:g=b:=by injection e with e;injection e
   omega
 ·rcases hat with⟨rfl,rfl⟩ | ⟨⟨g,hg,hge⟩,_⟩
  ·exact h.lies
  ·exact .inr ⟨g,hg,by omega⟩
theorem Grw.lt{k:Nat}{v:Value}(h:Grw E T N L Z A n c X M G C k v w){j g:Nat}(hj:j<k)(hg:G j=some ⟨g,0,none⟩):N≤g∧g<w.heap.size:=by
 have:=h.new j hj;rw[hg]at this;exact this.own.lt g rfl
theorem Grw.next{k c5 c6 cap:Nat}{ao5 ao6 ao:Option Addr}{wo wy w6:World}{o:Obj}(h:Grw E T N L Z A n c X M G C k (.slice ao5 k c5) wo)(hL:L<Z)(hZo:Z≤wo.heap.size)(hk:k<2)(hM:(M k).length=64)(r:Rg E T N L A n c X M k 64 ao cap wo wy)
    (hown6:w6.ownsRow Z T 1 (.slice ao6 (k+1) c6) (k+1) (((List.range k).map fun j=>.slice (G j) (n j+64) (C j))++[.slice ao (n k+64) cap])) (hg6:(wy.alloc o).grownBy w6 (Value.ownBlock (.slice ao5 k c5))):
    Grw E T N L Z A n c X M (fun j=>if j=k then ao else G j) (fun j=>if j=k then cap else C j) (k+1) (.slice ao6 (k+1) c6) w6:=by
 have hTE:T≠E:=Ne.symm h.ls.ty
 have hkeep:∀b,b<wy.heap.size→Value.ownBlock (.slice ao5 k c5)≠some b→w6.heap[b]? =wy.heap[b]? :=fun b hb hne=>(hg6.block b (by simp;omega) (Ne.symm hne)).trans (heap_alloc_old _ _ hb)
 have hblk:∀ {j g:Nat},j<2→A j=some ⟨g,0,none⟩→Value.ownBlock (.slice ao5 k c5)≠some g:=by
  intro j g hj hg;have:=h.ls.own j hj;exact own_own_ne h.gs this.own hTE (by rw[hg];rfl)
 have hgy:wy.ownsRow Z T 1 (.slice ao5 k c5) k ((List.range k).map fun j=>.slice (G j) (n j+64) (C j)):=
  own_keepV h.gs (fun b hb=>r.keep b (h.gs.lt b hb).2 (fun e=>hblk hk e hb))
 have hrown:OwnV E wy N ao (n k+64) cap (X k++M k):=by have:=r.own;rw[List.take_of_length_le (by omega)]at this;exact this
 refine⟨⟨r.ls.tabOf (hkeep L r.ls.tabLt (fun e=> ?_)),fun j hj=>(r.ls.own j hj).keep (fun g hg=>hkeep g (r.ls.lt hj hg).2 (hblk hj hg)),h.ls.ne,h.ls.ty⟩,fun j hj=> ?_,fun j m g hj hm hm2 hg=> ?_,fun i j g hi hj hij hg=> ?_,fun j hj=> ?_, ?_⟩
 ·have:=(h.gs.lt L e).1;omega
 ·by_cases e:j=k
  ·subst e
   simp only[if_true];refine hrown.keep (fun g hg=> ?_)
   have hlt:g<wy.heap.size:=by
    have:=hrown;rw[hg]at this;exact(this.own.lt g rfl).2
   exact hkeep g hlt (own_own_ne hgy hrown.own hTE (by rw[hg];rfl))
  ·simp only[if_neg e]
   have hj':j<k:=by omega
   have hny:OwnV E wy N (G j) (n j+64) (C j) (X j++M j):=(h.new j hj').keep (fun g hg=>r.keep g (h.lt hj' hg).2 (h.far j k g hj' (Nat.le_refl _) hk hg));refine hny.keep (fun g hg=> ?_)
   have hlt:g<wy.heap.size:=by
    have:=hny;rw[hg]at this;exact(this.own.lt g rfl).2
   exact hkeep g hlt (own_own_ne hgy hny.own hTE (by rw[hg];rfl))
 ·by_cases e:j=k
  ·subst e
   simp only[if_true]at hg;rcases r.lies with⟨h1,_⟩ | ⟨g',hg',hge⟩
   ·exact h.ls.ne j m g hk hm2 (by omega) (by rw[←h1,hg])
   ·intro e2
    have:=(h.ls.lt hm2 e2).2;rw[hg']at hg
    have:g'=g:=by injection hg with hg;injection hg
    omega
  ·simp only[if_neg e]at hg
   exact h.far j m g (by omega) (by omega) hm2 hg
 ·-- blocks of grown lists are apart
  have key:∀j g,j<k→G j=some ⟨g,0,none⟩→ao≠some ⟨g,0,none⟩:=by
   intro j g hj hg e;rcases r.lies with⟨h1,_⟩ | ⟨g',hg',hge⟩
   ·exact h.far j k g hj (Nat.le_refl _) hk hg (by rw[←h1,e])
   ·have:=(h.lt hj hg).2
    rw[hg']at e
    have:g'=g:=by injection e with e;injection e
    omega
  by_cases ei:i=k
  ·subst ei
   simp only[if_true]at hg;simp only[if_neg (Ne.symm hij)]
   exact fun e=>key j g (by omega) e hg
  ·simp only[if_neg ei]at hg
   by_cases ej:j=k
   ·subst ej
    simp only[if_true];exact key i g (by omega) hg
   ·simp only[if_neg ej]
    exact h.sep i j g (by omega) (by omega) hij hg
 ·by_cases e:j=k
  ·subst e
   simp only[if_true];rcases r.lies with⟨h1,_⟩ | ⟨g,hg,hge⟩
   ·exact .inl h1
   ·exact .inr ⟨g,hg,by omega⟩
  ·simp only[if_neg e]
   exact h.lies j (by omega)
 ·have e:(List.range (k+1)).map (fun j=>Value.slice (if j=k then ao else G j) (n j+64) (if j=k then cap else C j))=((List.range k).map fun j=>.slice (G j) (n j+64) (C j))++[.slice ao (n k+64) cap]:=by
    rw[List.range_succ,List.map_append];congr 1
    ·refine List.map_congr_left (fun j hj=> ?_)
     have:=List.mem_range.1 hj;rw[if_neg (by omega),if_neg (by omega)]
    ·simp
  rw[e];exact hown6
structure Kp(N:Nat)(A:Nat→Option Addr)(w w':World):Prop where
 bel:Below N w w'
 keep:∀b,b<w.heap.size→(∀k,k<2→A k≠some ⟨b,0,none⟩)→w'.heap[b]? =w.heap[b]?
theorem Kp.refl(N:Nat)(A:Nat→Option Addr)(w:World):Kp N A w w:=⟨Below.refl _ _,fun _ _ _=>rfl⟩
theorem Kp.drew(h:Kp N A w w'):Kp N A w w'.drew:=⟨h.bel.drew,h.keep⟩
theorem Kp.drewN(h:Kp N A w w')(m:Nat):Kp N A w (w'.drewN m):=by
 induction m with
 | zero=>exact h
 | succ m ih=>exact ih.drew
theorem Kp.put(h:Kp N A w w'){k g:Nat}(hk:k<2)(hA:A k=some ⟨g,0,none⟩)(hg:N≤g)(j:Nat)(v:Value):Kp N A w (w'.setCell ⟨g,j,none⟩ v):=
 ⟨h.bel.setCell (p:=⟨g,j,none⟩) hg v,fun b hb hne=>(blk_other v (fun e=>hne k hk (by rw[hA];simp only at e;rw[e]))).trans (h.keep b hb hne)⟩
theorem Kp.below{w'':World}(h:Kp N A w w')(hb:Below Z w' w'')(hZ:w.heap.size≤Z)(hN:N≤Z):Kp N A w w'':=
 ⟨h.bel.trans (hb.mono hN),fun b hb' hne=>(hb.block b (Nat.lt_of_lt_of_le hb' hZ)).trans (h.keep b hb' hne)⟩
theorem Grw.start(h:Lists E T N L A n c X w)(_hZ:Z=w.heap.size):Grw E T N L Z A n c X M (fun _=>none) (fun _=>0) 0 (.slice none 0 0) w:=
 ⟨h,fun j hj=>by omega,fun j m g hj=>by omega,fun i j g hi=>by omega,fun j hj=>by omega,World.ownsRow_nil _ _ _ _⟩
end
end One
end Code
end Go.Proofs.YtljhklblbafjkaaGreatDoor
