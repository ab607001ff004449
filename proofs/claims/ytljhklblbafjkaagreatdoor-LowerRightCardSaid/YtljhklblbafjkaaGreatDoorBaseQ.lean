/- What values of the program say: an instruction's cells; a list of instructions in memory; small lemmas on worlds. No condition. -/
import Derived.Test.YtljhklblbafjkaaGreatDoorProg
import Derived.Test.YtljhklblbafjkaaGreatDoorPlainQ
import Derived.WalkKit
import Derived.WalkSpells
import Derived.WalkLawsBesides
import Derived.Lib.Hide
import Derived.Deep.LoopGhost
import Derived.Deep.QuietTactic
import Derived.BigQuiet
import Derived.IntWalk
import Derived.OneCell
import Derived.Laws.OwnMore
import Derived.Laws.EntriesVeiled
import Derived.Deep.AppendLies
namespace Go.Proofs.YtljhklblbafjkaaGreatDoor
open Go.RowKit
def cellsI(x:B.Ins):List Value:=[.int .i64 x.op,.int .i64 x.a,.int .i64 x.b,.int .i64 x.n,.int .u64 x.imm]
theorem belowN{N:Nat}{a w:World}(h:Below N a w)(n:Nat):Below N a (w.drewN n):=by
 induction n with
 | zero=>exact h
 | succ n ih=>exact ih.drew
theorem ret_int{k:IntKind}{a b:Int}(h:a=b):Ending.returned (.int k a)= .returned (.int k b):=by rw[h]
theorem ret_bool{a b:Bool}(h:a=b):Ending.returned (.bool a)= .returned (.bool b):=by rw[h]
def RowAt(w:World)(b off:Nat)(vs:List Value):Prop:=∀j v,vs[j]? =some v→w.cell? ⟨b,off+j,none⟩=some v
theorem RowAt.below{N:Nat}{w w':World}{b off:Nat}{vs:List Value}(h:RowAt w b off vs)(hb:Below N w w')(hlt:b<N):RowAt w' b off vs:=
 fun j v hv=>(hb.cell (p:=⟨b,off+j,none⟩) hlt).trans (h j v hv)
structure InsAt(w:World)(b off:Nat)(x:B.Ins):Prop where
 c0:w.cell? ⟨b,off,none⟩=some (.int .i64 x.op)
 c1:w.cell? ⟨b,off+1,none⟩=some (.int .i64 x.a)
 c2:w.cell? ⟨b,off+2,none⟩=some (.int .i64 x.b)
 c3:w.cell? ⟨b,off+3,none⟩=some (.int .i64 x.n)
 c4:w.cell? ⟨b,off+4,none⟩=some (.int .u64 x.imm)
theorem InsAt.below{N:Nat}{w w':World}{b off:Nat}{x:B.Ins}(h:InsAt w b off x)(hb:Below N w w')(hlt:b<N):InsAt w' b off x:=
 ⟨(hb.cell (p:=⟨b,off,none⟩) hlt).trans h.c0,(hb.cell (p:=⟨b,off+1,none⟩) hlt).trans h.c1,(hb.cell (p:=⟨b,off+2,none⟩) hlt).trans h.c2,
  (hb.cell (p:=⟨b,off+3,none⟩) hlt).trans h.c3,(hb.cell (p:=⟨b,off+4,none⟩) hlt).trans h.c4⟩
structure ProgAt(w:World)(a:Option Addr)(len:Nat)(ps:List B.Ins):Prop where
 len:len=ps.length
 at_:∀i x,ps[i]? =some x→∃b off,a=some ⟨b,off,none⟩∧b<w.heap.size∧InsAt w b (off+i*5) x
def cellsP(ps:List B.Ins):List Value:=ps.flatMap cellsI
theorem cellsI_length(x:B.Ins):(cellsI x).length=5:=rfl
theorem cellsP_length(ps:List B.Ins):(cellsP ps).length=ps.length*5:=by
 induction ps with
 | nil=>rfl
 | cons x l ih=>show(cellsI x++cellsP l).length=_;rw[List.length_append,ih,cellsI_length,List.length_cons];omega
theorem cellsP_append(ps qs:List B.Ins):cellsP (ps++qs)=cellsP ps++cellsP qs:=by unfold cellsP;rw[List.flatMap_append]
theorem cellsP_get:∀(ps:List B.Ins) (i:Nat) (x:B.Ins),ps[i]? =some x→∀j,j<5→(cellsP ps)[i*5+j]? =(cellsI x)[j]? :=by
 intro ps
 induction ps with
 | nil=>intro i x h;simp at h
 | cons y l ih=>
  intro i x h j hj
  show(cellsI y++cellsP l)[i*5+j]? =_
  cases i with
  | zero=>
   simp at h;subst h;rw[List.getElem?_append_left (by rw[cellsI_length];omega)];congr 1;omega
  | succ i=>
   rw[List.getElem?_append_right (by rw[cellsI_length];omega),cellsI_length];rw[show(i+1)*5+j-5=i*5+j by omega];exact ih i x (by simpa using h) j hj
structure OwnP(w:World)(base:Nat)(ao:Option Addr)(n cap:Nat)(qs:List B.Ins):Prop where
 len:n=qs.length
 own:w.ownsRow base 74 5 (.slice ao n cap) n (cellsP qs)
theorem OwnP.nil(w:World)(base:Nat):OwnP w base none 0 0 []:=⟨rfl,World.ownsRow_nil _ _ _ _⟩
theorem OwnP.kept{w w':World}{base:Nat}{ao:Option Addr}{n cap:Nat}{qs:List B.Ins}(h:OwnP w base ao n cap qs)(hb:Below w.heap.size w w'):OwnP w' base ao n cap qs:=
 ⟨h.len,h.own.kept (row:=none) ⟨hb.os,hb.tape,hb.output,hb.size,fun k hk _=>hb.block k hk⟩ (by cases ao<;>simp[Value.ownBlock])⟩
theorem OwnP.insAt{w:World}{base:Nat}{ao:Option Addr}{n cap:Nat}{qs:List B.Ins}(h:OwnP w base ao n cap qs){i:Nat}{x:B.Ins}(hx:qs[i]? =some x):
    ∃g,ao=some ⟨g,0,none⟩∧base≤g∧g<w.heap.size∧InsAt w g (i*5) x:=by
 have hi:=(List.getElem?_eq_some_iff.1 hx).1;rcases h.own.2 with⟨hv,hn⟩ | ⟨g,cap',cur,hv,hg,hh,_⟩
 ·have:=h.len;omega
 ·cases hv
  have hlt:g<w.heap.size:=(Array.getElem?_eq_some_iff.1 hh).1;refine⟨g,rfl,hg,hlt, ?_⟩
  have hc:∀j u,(cellsI x)[j]? =some u→w.cell? ⟨g,i*5+j,none⟩=some u:=by
   intro j u hu
   have hj:j<5:=by have:=(List.getElem?_eq_some_iff.1 hu).1;rw[cellsI_length]at this;exact this
   have:=h.own.cells (g:=g) rfl (i*5+j) u (by rw[cellsP_get qs i x hx j hj];exact hu);rw[Addr.add]at this;split at this
   ·rename_i h0;rw[h0];exact this
   ·simpa using this
  exact⟨hc 0 _ rfl,hc 1 _ rfl,hc 2 _ rfl,hc 3 _ rfl,hc 4 _ rfl⟩
theorem OwnP.progAt{w:World}{base:Nat}{ao:Option Addr}{n cap:Nat}{qs:List B.Ins}(h:OwnP w base ao n cap qs):ProgAt w ao n qs:=
 ⟨h.len,fun i x hx=>let⟨g,e,_,hlt,hat⟩:=h.insAt hx;⟨g,0,e,hlt,by rw[Nat.zero_add];exact hat⟩⟩
theorem OwnP.ahead{w:World}{base:Nat}{ao:Option Addr}{n cap len:Nat}{ps qs:List B.Ins}(h:OwnP w base ao n cap (ps++qs))(hl:len=ps.length):ProgAt w ao len ps:=
 ⟨hl,fun i x hx=>let⟨g,e,_,hlt,hat⟩:=h.insAt (x:=x) (i:=i) (by rw[List.getElem?_append_left (List.getElem?_eq_some_iff.1 hx).1];exact hx);⟨g,0,e,hlt,by rw[Nat.zero_add];exact hat⟩⟩
theorem ProgAt.below{N:Nat}{w w':World}{a:Option Addr}{len:Nat}{ps:List B.Ins}(h:ProgAt w a len ps)(hb:Below N w w')(hN:w.heap.size≤N):ProgAt w' a len ps:=
 ⟨h.len,fun i x hx=>let⟨b,off,e,hlt,hat⟩:=h.at_ i x hx;⟨b,off,e,Nat.lt_of_lt_of_le hlt hb.size,hat.below hb (Nat.lt_of_lt_of_le hlt hN)⟩⟩
theorem info74:(Tryz.prog.info? 74).map (fun i=>(i.zero,i.size,i.bytes))=some (some (.agg #[.int .i64 0,.int .i64 0,.int .i64 0,.int .i64 0,.int .u64 0]),5,40):=by kernel_rfl
end Go.Proofs.YtljhklblbafjkaaGreatDoor
namespace Go.Proofs.YtljhklblbafjkaaGreatDoor
open Go.RowKit
theorem app_gen{T E:TypeId}{z:Value}{size bytes:Nat}(hu:Tryz.prog.underlying T=some (.slice E))(hinfo:(Tryz.prog.info? E).map (fun i=>(i.zero,i.size,i.bytes))=some (some z,size,bytes))(hzs:z.cells.size=size)(hsz:0<size)
    {ops:Array Oper} {rest:List Oper} {o:Oper} {a:Act} {Q:Exit→Act→World→Prop} {w:World} (hgd:o.guard=none) (s x:Operand)
    (ho:o.op= .call { callee:=.builtin .append,args:= #[s,x],argTypes:= #[T,T]})
    (base:Nat) {ao:Option Addr} {n cap:Nat} {xs:List Value} {C:Array Value} (hs:a.eval s= .slice ao n cap) (hown:w.ownsRow base E size (.slice ao n cap) n xs)
    (hx:a.eval x= .slice (some ⟨w.heap.size,0,none⟩) 1 1) (hC:C.size=size) (h1:∀u∈C.toList,u.oneCell'=true) (hmax:n+1≤9223372036854775807) (hbytes:(n+1)*bytes≤140737488355328) (hbase:base≤w.heap.size)
    (h:∀ao' cap' w',w'.ownsRow base E size (.slice ao' (n+1) cap') (n+1) (xs++C.toList)→(w.alloc (.cells C E)).grownBy w' (Value.ownBlock (.slice ao n cap))→Below base w w'→w.heap.size≤w'.heap.size→wpList Tryz.prog ops Q rest (a.put o.dst (.slice ao' (n+1) cap')) w'):
    wpList Tryz.prog ops Q (o::rest) a (w.alloc (.cells C E)):=by
 obtain⟨i,hi,hz0,hz1,hz2⟩:=info_parts hinfo;have hlt:=hown.lt;refine wpList_append_own _ hgd s x T ho base E i _ size bytes hu hi hz0 hz1 hz2 hzs hsz _ n xs hs (hown.alloc _) ⟨w.heap.size,0,none⟩ 1 1 C.toList hx (by simp[hC]) ?_ h1 (by simp only[maxLen];omega) hbytes (by simp;omega) ?_
 ·intro j u hu
  have e:(⟨w.heap.size,0,none⟩:Addr).add j=⟨w.heap.size,j,none⟩:=by unfold Addr.add;split<;>simp_all
  rw[e,cell_of_row _ _ _ _ _ _ (heap_alloc_new w _)];simpa using hu
 ·intro v' w' hown' hg _
  have hb:Below base w w':=((Below.refl base w).alloc hbase _).grown hg (by simp;omega) (fun k hk=>(hlt k hk).1);have hsz:w.heap.size≤w'.heap.size:=hb.size;rcases hown'.2 with⟨_,hn⟩ | ⟨g,cap',cur,rfl,rest'⟩
  ·omega
  ·exact h _ _ _ hown' hg hb hsz
theorem step_app{T E:TypeId}{z:Value}{size bytes:Nat}(hu:Tryz.prog.underlying T=some (.slice E))(hinfo:(Tryz.prog.info? E).map (fun i=>(i.zero,i.size,i.bytes))=some (some z,size,bytes))(hzs:z.cells.size=size)(hsz:0<size)
    {ops:Array Oper} {o:Oper} {a:Act} {K:Act→World→Prop} {Q:Exit→Act→World→Prop} {X:Prop} {W:World} (hgd:o.guard=none) (s x:Operand)
    (ho:o.op= .call { callee:=.builtin .append,args:= #[s,x],argTypes:= #[T,T]})
    (base:Nat) {ao:Option Addr} {n cap B:Nat} {xs news:List Value} {C:Array Value} (hs:a.eval s= .slice ao n cap) (hown:W.ownsRow base E size (.slice ao n cap) n xs)
    (hx:a.eval x= .slice (some ⟨B,0,none⟩) 1 1) (hB:W.heap[B]? =some (.cells C E (0,0))) (hC:C.toList=news) (hl:news.length=size) (h1:∀u∈news,u.oneCell'=true) (hmax:n+1≤9223372036854775807) (hbytes:(n+1)*bytes≤140737488355328) (hbase:base≤W.heap.size)
    (h:∀ao' cap' w',w'.ownsRow base E size (.slice ao' (n+1) cap') (n+1) (xs++news)→W.grownBy w' (Value.ownBlock (.slice ao n cap))→Below base W w'→W.heap.size≤w'.heap.size→K (a.put o.dst (.slice ao' (n+1) cap')) w'):
    if Region.wanted o (yielded ops a.tmps)=true then Oper.wp Tryz.prog o a W K Q else X:=by
 obtain⟨i,hi,hz0,hz1,hz2⟩:=info_parts hinfo;have hlt:=hown.lt;subst hC;refine step_append_lies W hgd s x T ho base E i z size bytes hu hi hz0 hz1 hz2 hzs hsz _ n xs hs hown ⟨B,0,none⟩ 1 1 C.toList hx (by simpa using hl) (World.news_of_block hB) h1 (by omega) (by simp only[maxLen];omega) hbytes hbase W.heap.size rfl ?_;intro g cap1 w1 hown1 hg hat hlt1;have hb:Below base W w1:=(Below.refl base W).grown hg hbase (fun k hk=>(hlt k hk).1);exact h _ _ _ hown1 hg hb hb.size
theorem blk_setCell{w:World}{b off:Nat}{cs:Array Value}{t:TypeId}{fr:Nat×Nat}(h:w.heap[b]? =some (.cells cs t fr))(u:Value):(w.setCell ⟨b,off,none⟩ u).heap[b]? =some (.cells (cs.setIfInBounds off u) t fr):=by
 have hlt:=lt_of_block h
 have h':w.heap[b]= .cells cs t fr:=by simpa[Array.getElem?_eq_getElem hlt]using h
 show(w.heap.modify b _)[b]? =_
 rw[Array.getElem?_eq_getElem (by simpa using hlt),Array.getElem_modify_self,h'];rfl
theorem blk_other{w:World}{a:Addr}{b:Nat}(u:Value)(h:b≠a.block):(w.setCell a u).heap[b]? =w.heap[b]? :=Below.heap_setCell _ _ _ _ h
theorem frozen_blk{w:World}{b off:Nat}{cs:Array Value}{t:TypeId}(h:w.heap[b]? =some (.cells cs t (0,0))):w.frozen? ⟨b,off,none⟩=false:=by simp[World.frozen?,h]
theorem own_ne{w:World}{base E T size n:Nat}{v:Value}{xs:List Value}{b:Nat}{cs:Array Value}{fr:Nat×Nat}(h:w.ownsRow base E size v n xs)(hb:w.heap[b]? =some (.cells cs T fr))(hne:E≠T):v.ownBlock≠some b:=by
 rcases h.2 with⟨rfl,_⟩ | ⟨g,cap,cur,rfl,_,hg,_⟩
 ·simp[Value.ownBlock]
 ·intro e
  simp only[Value.ownBlock,Option.some.injEq]at e;subst e;rw[hg]at hb;simp only[Option.some.injEq,Obj.cells.injEq]at hb;exact hne hb.2.1
end Go.Proofs.YtljhklblbafjkaaGreatDoor
namespace Go.Proofs.YtljhklblbafjkaaGreatDoor
open Go.RowKit
namespace Code
structure ListAt(w:World)(a:Option Addr)(n:Nat)(vs:List Value):Prop where
 len:n=vs.length
 at_:∀(i:Nat) v,vs[i]? =some v→∃b off,a=some ⟨b,off,none⟩∧b<w.heap.size∧w.cell? ⟨b,off+i,none⟩=some v
theorem ListAt.below{N:Nat}{w w':World}{a:Option Addr}{n:Nat}{vs:List Value}(h:ListAt w a n vs)(hb:Below N w w')(hN:w.heap.size≤N):ListAt w' a n vs:=
 ⟨h.len,fun i v hv=>let⟨b,off,e,hlt,hc⟩:=h.at_ i v hv;⟨b,off,e,Nat.lt_of_lt_of_le hlt hb.size,(hb.cell (p:=⟨b,off+i,none⟩) (Nat.lt_of_lt_of_le hlt hN)).trans hc⟩⟩
theorem ListAt.grown{w w':World}{a:Option Addr}{n:Nat}{vs:List Value}(h:ListAt w a n vs)(hg:w.grownBy w' none):ListAt w' a n vs:=
 ⟨h.len,fun i v hv=>let⟨b,off,e,hlt,hc⟩:=h.at_ i v hv;⟨b,off,e,Nat.lt_of_lt_of_le hlt hg.size,(hg.cell_far ⟨b,off+i,none⟩ hlt (by simp)).trans hc⟩⟩
theorem ListAt.drew{w:World}{a:Option Addr}{n:Nat}{vs:List Value}(h:ListAt w a n vs):ListAt w.drew a n vs:=⟨h.len,h.at_⟩
theorem ListAt.news{w:World}{ad:Addr}{m:Nat}{vs:List Value}(h:ListAt w (some ad) m vs):∀j u,vs[j]? =some u→w.cell? (ad.add j)=some u:=by
 intro j u hu;obtain⟨b,off,e,_,hc⟩:=h.at_ j u hu;simp only[Option.some.injEq]at e;subst e
 have e:(⟨b,off,none⟩:Addr).add j=⟨b,off+j,none⟩:=by unfold Addr.add;split<;>simp_all
 rw[e];exact hc
theorem ListAt.ofOwn{w:World}{base:Nat}{E:TypeId}{a:Option Addr}{n cap:Nat}{vs:List Value}(h:w.ownsRow base E 1 (.slice a n cap) n vs):ListAt w a n vs:=by
 have hl:vs.length=n*1:=h.1;refine⟨by omega,fun i v hv=> ?_⟩;have hi:=(List.getElem?_eq_some_iff.1 hv).1;rcases h.2 with⟨he,hn⟩ | ⟨g,cap',cur,he,hb,hg,_⟩
 ·omega
 ·cases he
  refine⟨g,0,rfl,lt_of_block hg, ?_⟩;have:=World.ownsRow.cellAt h i (by omega);rw[Nat.zero_add,this,hv]
end Code
end Go.Proofs.YtljhklblbafjkaaGreatDoor
