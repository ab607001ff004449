/- What values of the program say: an instruction's cells; a list of instructions in memory; small lemmas on worlds. No condition. -/
import Derived.Test.YtpibampaobncaaaGreatDoorProg
import Derived.Test.YtpibampaobncaaaGreatDoorPlainQ
import Derived.WalkKit
import Derived.WalkSpells
import Derived.WalkLawsBesides
import Derived.Lib.Hide
import Derived.Deep.LoopGhost
import Derived.Deep.QuietTactic
import Derived.BigQuiet
import Derived.IntWalk
import Derived.OneCell
import Derived.Laws.OwnMore
import Derived.Laws.EntriesVeiled
import Derived.Deep.AppendLies
open Go.Lib renaming hid→hd'
namespace Go.Proofs.YtpibampaobncaaaGreatDoor
open Go.RowKit
def cellsI(x:B.Ins):List Value:=[.int .i64 x.op,.int .i64 x.a,.int .i64 x.b,.int .i64 x.n,.int .u64 x.imm]
theorem belowN{N:Nat}{a w:World}(h:Below N a w)(n:Nat):Below N a (w.drewN n):=by
 induction n with
 | zero=>exact h
 | succ n ih=>exact ih.drew
theorem ret_int{k:IntKind}{a b:Int}(h:a=b):Ending.returned (.int k a)= .returned (.int k b):=by rw[h]
theorem ret_bool{a b:Bool}(h:a=b):Ending.returned (.bool a)= .returned (.bool b):=by rw[h]
def RowAt(w:World)(b off:Nat)(vs:List Value):Prop:=∀j v,vs[j]? =some v→w.cell? ⟨b,off+j,none⟩=some v
theorem RowAt.below{N:Nat}{w w':World}{b off:Nat}{vs:List Value}(h:RowAt w b off vs)(hb:Below N w w')(hlt:b<N):RowAt w' b off vs:=
 fun j v hv=>(hb.cell (p:=⟨b,off+j,none⟩) hlt).trans (h j v hv)
structure InsAt(w:World)(b off:Nat)(x:B.Ins):Prop where
 c0:w.cell? ⟨b,off,none⟩=some (.int .i64 x.op)
 c1:w.cell? ⟨b,off+1,none⟩=some (.int .i64 x.a)
 c2:w.cell? ⟨b,off+2,none⟩=some (.int .i64 x.b)
 c3:w.cell? ⟨b,off+3,none⟩=some (.int .i64 x.n)
 c4:w.cell? ⟨b,off+4,none⟩=some (.int .u64 x.imm)
theorem InsAt.below{N:Nat}{w w':World}{b off:Nat}{x:B.Ins}(h:InsAt w b off x)(hb:Below N w w')(hlt:b<N):InsAt w' b off x:=
 ⟨(hb.cell (p:=⟨b,off,none⟩) hlt).trans h.c0,(hb.cell (p:=⟨b,off+1,none⟩) hlt).trans h.c1,(hb.cell (p:=⟨b,off+2,none⟩) hlt).trans h.c2,
  (hb.cell (p:=⟨b,off+3,none⟩) hlt).trans h.c3,(hb.cell (p:=⟨b,off+4,none⟩) hlt).trans h.c4⟩
structure ProgAt(w:World)(a:Option Addr)(len:Nat)(ps:List B.Ins):Prop where
 len:len=ps.length
 at_:∀i x,ps[i]? =some x→∃b off,a=some ⟨b,off,none⟩∧b<w.heap.size∧InsAt w b (off+i*5) x
def cellsP(ps:List B.Ins):List Value:=ps.flatMap cellsI
theorem cellsI_length(x:B.Ins):(cellsI x).length=5:=rfl
theorem cellsP_length(ps:List B.Ins):(cellsP ps).length=ps.length*5:=by
 induction ps with
 | nil=>rfl
 | cons x l ih=>show(cellsI x++cellsP l).length=_;rw[List.length_append,ih,cellsI_length,List.length_cons];omega
theorem cellsP_append(ps qs:List B.Ins):cellsP (ps++qs)=cellsP ps++cellsP qs:=by unfold cellsP;rw[List.flatMap_append]
theorem cellsP_one(x:B.Ins):cellsP [x]=cellsI x:=by simp[cellsP]
theorem cellsP_get:∀(ps:List B.Ins) (i:Nat) (x:B.Ins),ps[i]? =some x→∀j,j<5→(cellsP ps)[i*5+j]? =(cellsI x)[j]? :=by
 intro ps
 induction ps with
 | nil=>intro i x h;simp at h
 | cons y l ih=>
  intro i x h j hj
  show(cellsI y++cellsP l)[i*5+j]? =_
  cases i with
  | zero=>
   simp at h;subst h;rw[List.getElem?_append_left (by rw[cellsI_length];omega)];congr 1;omega
  | succ i=>
   rw[List.getElem?_append_right (by rw[cellsI_length];omega),cellsI_length];rw[show(i+1)*5+j-5=i*5+j by omega];exact ih i x (by simpa using h) j hj
structure OwnP(w:World)(base:Nat)(ao:Option Addr)(n cap:Nat)(qs:List B.Ins):Prop where
 len:n=qs.length
 own:w.ownsRow base 25 5 (.slice ao n cap) n (cellsP qs)
theorem OwnP.nil(w:World)(base:Nat):OwnP w base none 0 0 []:=⟨rfl,World.ownsRow_nil _ _ _ _⟩
theorem OwnP.kept{w w':World}{base:Nat}{ao:Option Addr}{n cap:Nat}{qs:List B.Ins}(h:OwnP w base ao n cap qs)(hb:Below w.heap.size w w'):OwnP w' base ao n cap qs:=
 ⟨h.len,h.own.kept (row:=none) ⟨hb.os,hb.tape,hb.output,hb.size,fun k hk _=>hb.block k hk⟩ (by cases ao<;>simp[Value.ownBlock])⟩
theorem OwnP.insAt{w:World}{base:Nat}{ao:Option Addr}{n cap:Nat}{qs:List B.Ins}(h:OwnP w base ao n cap qs){i:Nat}{x:B.Ins}(hx:qs[i]? =some x):
    ∃g,ao=some ⟨g,0,none⟩∧base≤g∧g<w.heap.size∧InsAt w g (i*5) x:=by
 have hi:=(List.getElem?_eq_some_iff.1 hx).1;rcases h.own.2 with⟨hv,hn⟩ | ⟨g,cap',cur,hv,hg,hh,_⟩
 ·have:=h.len;omega
 ·cases hv
  have hlt:g<w.heap.size:=(Array.getElem?_eq_some_iff.1 hh).1;refine⟨g,rfl,hg,hlt, ?_⟩
  have hc:∀j u,(cellsI x)[j]? =some u→w.cell? ⟨g,i*5+j,none⟩=some u:=by
   intro j u hu
   have hj:j<5:=by have:=(List.getElem?_eq_some_iff.1 hu).1;rw[cellsI_length]at this;exact this
   have:=h.own.cells (g:=g) rfl (i*5+j) u (by rw[cellsP_get qs i x hx j hj];exact hu);rw[Addr.add]at this;split at this
   ·rename_i h0;rw[h0];exact this
   ·simpa using this
  exact⟨hc 0 _ rfl,hc 1 _ rfl,hc 2 _ rfl,hc 3 _ rfl,hc 4 _ rfl⟩
theorem OwnP.progAt{w:World}{base:Nat}{ao:Option Addr}{n cap:Nat}{qs:List B.Ins}(h:OwnP w base ao n cap qs):ProgAt w ao n qs:=
 ⟨h.len,fun i x hx=>let⟨g,e,_,hlt,hat⟩:=h.insAt hx;⟨g,0,e,hlt,by rw[Nat.zero_add];exact hat⟩⟩
theorem OwnP.ahead{w:World}{base:Nat}{ao:Option Addr}{n cap len:Nat}{ps qs:List B.Ins}(h:OwnP w base ao n cap (ps++qs))(hl:len=ps.length):ProgAt w ao len ps:=
 ⟨hl,fun i x hx=>let⟨g,e,_,hlt,hat⟩:=h.insAt (x:=x) (i:=i) (by rw[List.getElem?_append_left (List.getElem?_eq_some_iff.1 hx).1];exact hx);⟨g,0,e,hlt,by rw[Nat.zero_add];exact hat⟩⟩
theorem ProgAt.below{N:Nat}{w w':World}{a:Option Addr}{len:Nat}{ps:List B.Ins}(h:ProgAt w a len ps)(hb:Below N w w')(hN:w.heap.size≤N):ProgAt w' a len ps:=
 ⟨h.len,fun i x hx=>let⟨b,off,e,hlt,hat⟩:=h.at_ i x hx;⟨b,off,e,Nat.lt_of_lt_of_le hlt hb.size,hat.below hb (Nat.lt_of_lt_of_le hlt hN)⟩⟩
theorem info25:(Tryz.prog.info? 25).map (fun i=>(i.zero,i.size,i.bytes))=some (some (.agg #[.int .i64 0,.int .i64 0,.int .i64 0,.int .i64 0,.int .u64 0]),5,40):=by kernel_rfl
theorem app_ins{ops:Array Oper}{rest:List Oper}{o:Oper}{a:Act}{Q:Exit→Act→World→Prop}{w:World}(hgd:o.guard=none)(s x:Operand)
    (ho:o.op= .call { callee:=.builtin .append,args:= #[s,x],argTypes:= #[26,26]})
    (base:Nat) {ao:Option Addr} {n cap:Nat} {qs:List B.Ins} {c0 c1 c2 c3 c4:Int} (hs:a.eval s= .slice ao n cap) (hown:OwnP w base ao n cap qs)
    (hx:a.eval x= .slice (some ⟨w.heap.size,0,none⟩) 1 1) (hbytes:(n+1)*40≤140737488355328) (hbase:base≤w.heap.size)
    (h:∀ao' cap' w',OwnP w' base ao' (n+1) cap' (qs++[⟨c0,c1,c2,c3,c4⟩])→Below base w w'→w.heap.size≤w'.heap.size→wpList Tryz.prog ops Q rest (a.put o.dst (.slice ao' (n+1) cap')) w'):
    wpList Tryz.prog ops Q (o::rest) a (w.alloc (.cells #[.int .i64 c0,.int .i64 c1,.int .i64 c2,.int .i64 c3,.int .u64 c4] 25)):=by
 obtain⟨i,hi,hz0,hz1,hz2⟩:=info_parts info25;have hlt:=hown.own.lt;refine wpList_append_own _ hgd s x 26 ho base 25 i _ 5 40 Tryz.underlying26 hi hz0 hz1 hz2 rfl (by decide) _ n (cellsP qs) hs (hown.own.alloc _) ⟨w.heap.size,0,none⟩ 1 1 (cellsI ⟨c0,c1,c2,c3,c4⟩) hx rfl ?_ ?_ (by simp only[maxLen];omega) hbytes (by simp;omega) ?_
 ·intro j u hu
  have hj:j<5:=by have:=(List.getElem?_eq_some_iff.1 hu).1;rw[cellsI_length]at this;exact this
  have e:(⟨w.heap.size,0,none⟩:Addr).add j=⟨w.heap.size,j,none⟩:=by unfold Addr.add;split<;>simp_all
  rw[e,cell_of_row _ _ _ _ _ _ (heap_alloc_new w _)];simpa[cellsI]using hu
 ·intro u hu
  simp[cellsI]at hu
  rcases hu with rfl | rfl | rfl | rfl | rfl<;>rfl
 ·intro v' w' hown' hg _
  have hb:Below base w w':=((Below.refl base w).alloc hbase _).grown hg (by simp;omega) (fun k hk=>(hlt k hk).1);have hsz:w.heap.size≤w'.heap.size:=hb.size;rcases hown'.2 with⟨_,hn⟩ | ⟨g,cap',cur,rfl,rest'⟩
  ·omega
  ·refine h _ _ _ ⟨by simp[hown.len], ?_⟩ hb hsz
   rw[cellsP_append,cellsP_one];exact hown'
end Go.Proofs.YtpibampaobncaaaGreatDoor
namespace Go.Proofs.YtpibampaobncaaaGreatDoor
open Go.RowKit
theorem app_gen{T E:TypeId}{z:Value}{size bytes:Nat}(hu:Tryz.prog.underlying T=some (.slice E))(hinfo:(Tryz.prog.info? E).map (fun i=>(i.zero,i.size,i.bytes))=some (some z,size,bytes))(hzs:z.cells.size=size)(hsz:0<size)
    {ops:Array Oper} {rest:List Oper} {o:Oper} {a:Act} {Q:Exit→Act→World→Prop} {w:World} (hgd:o.guard=none) (s x:Operand)
    (ho:o.op= .call { callee:=.builtin .append,args:= #[s,x],argTypes:= #[T,T]})
    (base:Nat) {ao:Option Addr} {n cap:Nat} {xs:List Value} {C:Array Value} (hs:a.eval s= .slice ao n cap) (hown:w.ownsRow base E size (.slice ao n cap) n xs)
    (hx:a.eval x= .slice (some ⟨w.heap.size,0,none⟩) 1 1) (hC:C.size=size) (h1:∀u∈C.toList,u.oneCell'=true) (hmax:n+1≤9223372036854775807) (hbytes:(n+1)*bytes≤140737488355328) (hbase:base≤w.heap.size)
    (h:∀ao' cap' w',w'.ownsRow base E size (.slice ao' (n+1) cap') (n+1) (xs++C.toList)→(w.alloc (.cells C E)).grownBy w' (Value.ownBlock (.slice ao n cap))→Below base w w'→w.heap.size≤w'.heap.size→wpList Tryz.prog ops Q rest (a.put o.dst (.slice ao' (n+1) cap')) w'):
    wpList Tryz.prog ops Q (o::rest) a (w.alloc (.cells C E)):=by
 obtain⟨i,hi,hz0,hz1,hz2⟩:=info_parts hinfo;have hlt:=hown.lt;refine wpList_append_own _ hgd s x T ho base E i _ size bytes hu hi hz0 hz1 hz2 hzs hsz _ n xs hs (hown.alloc _) ⟨w.heap.size,0,none⟩ 1 1 C.toList hx (by simp[hC]) ?_ h1 (by simp only[maxLen];omega) hbytes (by simp;omega) ?_
 ·intro j u hu
  have e:(⟨w.heap.size,0,none⟩:Addr).add j=⟨w.heap.size,j,none⟩:=by unfold Addr.add;split<;>simp_all
  rw[e,cell_of_row _ _ _ _ _ _ (heap_alloc_new w _)];simpa using hu
 ·intro v' w' hown' hg _
  have hb:Below base w w':=((Below.refl base w).alloc hbase _).grown hg (by simp;omega) (fun k hk=>(hlt k hk).1);have hsz:w.heap.size≤w'.heap.size:=hb.size;rcases hown'.2 with⟨_,hn⟩ | ⟨g,cap',cur,rfl,rest'⟩
  ·omega
  ·exact h _ _ _ hown' hg hb hsz
theorem step_app{T E:TypeId}{z:Value}{size bytes:Nat}(hu:Tryz.prog.underlying T=some (.slice E))(hinfo:(Tryz.prog.info? E).map (fun i=>(i.zero,i.size,i.bytes))=some (some z,size,bytes))(hzs:z.cells.size=size)(hsz:0<size)
    {ops:Array Oper} {o:Oper} {a:Act} {K:Act→World→Prop} {Q:Exit→Act→World→Prop} {X:Prop} {W:World} (hgd:o.guard=none) (s x:Operand)
    (ho:o.op= .call { callee:=.builtin .append,args:= #[s,x],argTypes:= #[T,T]})
    (base:Nat) {ao:Option Addr} {n cap B:Nat} {xs news:List Value} {C:Array Value} (hs:a.eval s= .slice ao n cap) (hown:W.ownsRow base E size (.slice ao n cap) n xs)
    (hx:a.eval x= .slice (some ⟨B,0,none⟩) 1 1) (hB:W.heap[B]? =some (.cells C E (0,0))) (hC:C.toList=news) (hl:news.length=size) (h1:∀u∈news,u.oneCell'=true) (hmax:n+1≤9223372036854775807) (hbytes:(n+1)*bytes≤140737488355328) (hbase:base≤W.heap.size)
    (h:∀ao' cap' w',w'.ownsRow base E size (.slice ao' (n+1) cap') (n+1) (xs++news)→W.grownBy w' (Value.ownBlock (.slice ao n cap))→Below base W w'→W.heap.size≤w'.heap.size→K (a.put o.dst (.slice ao' (n+1) cap')) w'):
    if Region.wanted o (yielded ops a.tmps)=true then Oper.wp Tryz.prog o a W K Q else X:=by
 obtain⟨i,hi,hz0,hz1,hz2⟩:=info_parts hinfo;have hlt:=hown.lt;subst hC;refine step_append_lies W hgd s x T ho base E i z size bytes hu hi hz0 hz1 hz2 hzs hsz _ n xs hs hown ⟨B,0,none⟩ 1 1 C.toList hx (by simpa using hl) (World.news_of_block hB) h1 (by omega) (by simp only[maxLen];omega) hbytes hbase W.heap.size rfl ?_;intro g cap1 w1 hown1 hg hat hlt1;have hb:Below base W w1:=(Below.refl base W).grown hg hbase (fun k hk=>(hlt k hk).1);exact h _ _ _ hown1 hg hb hb.size
theorem blk_setCell{w:World}{b off:Nat}{cs:Array Value}{t:TypeId}{fr:Nat×Nat}(h:w.heap[b]? =some (.cells cs t fr))(u:Value):(w.setCell ⟨b,off,none⟩ u).heap[b]? =some (.cells (cs.setIfInBounds off u) t fr):=by
 have hlt:=lt_of_block h
 have h':w.heap[b]= .cells cs t fr:=by simpa[Array.getElem?_eq_getElem hlt]using h
 show(w.heap.modify b _)[b]? =_
 rw[Array.getElem?_eq_getElem (by simpa using hlt),Array.getElem_modify_self,h'];rfl
theorem blk_other{w:World}{a:Addr}{b:Nat}(u:Value)(h:b≠a.block):(w.setCell a u).heap[b]? =w.heap[b]? :=Below.heap_setCell _ _ _ _ h
theorem frozen_blk{w:World}{b off:Nat}{cs:Array Value}{t:TypeId}(h:w.heap[b]? =some (.cells cs t (0,0))):w.frozen? ⟨b,off,none⟩=false:=by simp[World.frozen?,h]
theorem own_ne{w:World}{base E T size n:Nat}{v:Value}{xs:List Value}{b:Nat}{cs:Array Value}{fr:Nat×Nat}(h:w.ownsRow base E size v n xs)(hb:w.heap[b]? =some (.cells cs T fr))(hne:E≠T):v.ownBlock≠some b:=by
 rcases h.2 with⟨rfl,_⟩ | ⟨g,cap,cur,rfl,_,hg,_⟩
 ·simp[Value.ownBlock]
 ·intro e
  simp only[Value.ownBlock,Option.some.injEq]at e;subst e;rw[hg]at hb;simp only[Option.some.injEq,Obj.cells.injEq]at hb;exact hne hb.2.1
end Go.Proofs.YtpibampaobncaaaGreatDoor
namespace Go.Proofs.YtpibampaobncaaaGreatDoor
open Go.RowKit
def markI(i:Int):B.Ins:=⟨-97,0,0,0,IntKind.u64.wrap i⟩
theorem mark_any(i:Int)(w:World):
    Calls Tryz.prog 39 #[.int .i64 90,.int .i64 i] w fun e w'=>e= .returned (.agg #[.int .i64 (-97),.int .i64 0,.int .i64 0,.int .i64 0,.int .u64 (IntKind.u64.wrap i)])∧Below w.heap.size w w':=by
 go_enter Tryz.func39,Tryz.ntmps39
 go_wp2
 exact bodyPost_ret (v:=.agg #[.int .i64 (-97),.int .i64 0,.int .i64 0,.int .i64 0,.int .u64 (IntKind.u64.wrap i)]) (by simp[results,Tryz.results39,go_sem]) rfl ⟨rfl,(Below.refl _ _).alloc (Nat.le_refl _) _⟩
theorem markI_nat(m:Nat)(h:m<1000):markI m=⟨-97,0,0,0,m⟩:=by
 unfold markI;rw[show IntKind.u64.wrap (m:Int)=(m:Int)from IntWalk.u64_in _ (by omega)]
def marks(k:Nat):List B.Ins:=(List.range k).map fun(i:Nat)=>markI (i:Int)
theorem take_snoc{α:Type}(l:List α)(k:Nat)(x:α)(h:l[k]? =some x):l.take (k+1)=l.take k++[x]:=by
 rw[List.take_add_one,h];rfl
theorem marks_succ(k:Nat):marks (k+1)=marks k++[markI k]:=by simp[marks,List.range_succ]
set_option maxHeartbeats 1000000 in
theorem full_any(a:Option Addr)(len cap:Nat)(ps:List B.Ins)(w:World)(hp:ProgAt w a len ps)(hr:len*40≤140737488351232):
    Calls Tryz.prog 33 #[.slice a len cap] w fun e w'=>∃ao cap',e= .returned (.slice ao (len+16) cap')∧OwnP w' w.heap.size ao (len+16) cap' (ps++marks 16)∧Below w.heap.size w w':=by
 have HP:=hd' hp
 have hlen:len≤3518437208780:=by omega
 clear hp;go_enter Tryz.func33,Tryz.ntmps33
 go_wp2
 go_loopw [3,4] (fun v i wr=>∃(k:Nat) (ao:Option Addr) (cp:Nat),k≤len∧i= .int .i64 k∧v= .slice ao k cp∧OwnP wr w.heap.size ao k cp (ps.take k)∧Below w.heap.size w wr)
  (fun _ i _=>len-(intOf i).toNat)
 case atStart=>exact⟨0,none,0,Nat.zero_le _,rfl,rfl,OwnP.nil _ _,Below.refl _ _⟩
 case round=>
  obtain⟨k,ao,cp,hk,rfl,rfl,hown,hb⟩:=hrel;have HB:=hd' hb;have hsz:=hb.size
  by_cases hlt:k<len
  ·have hx:ps[k]? =some (ps[k]'(by have:=HP.out.len;omega)):=List.getElem?_eq_getElem _
   generalize ps[k]'(by have:=HP.out.len;omega)=x at hx;obtain⟨b,off,rfl,hbl,hat⟩:=HP.out.at_ k x hx;have hat':=hat.below hb hbl;obtain⟨h0,h1,h2,h3,h4⟩:=hat';have HX:=hd' hx;have HO:=hd' hown;clear hx hat hown hb;go_wp2_with (at_builtin;refine app_ins rfl _ _ rfl w.heap.size rfl HO.out rfl (by omega) (by omega) ?_;intro ao' cp' w1 hown1 hb1 hs1);go_roundw
   case rel=>exact⟨k+1,ao',cp',by omega,by go_num,rfl,by rw[take_snoc _ _ _ HX.out];exact hown1,HB.out.trans (hb1.mono (Nat.le_refl _))⟩
   case measure=>simp[intOf];omega
  ·obtain rfl:k=len:=by omega
   have HO:Hid (OwnP wr w.heap.size ao k cp ps):=by
    have:=hown;rw[List.take_of_length_le (by have:=HP.out.len;omega)]at this;exact this
   clear hown hb
   go_wp2
   go_loopw [3,5] (fun v i w2=>∃(m:Nat) (ao:Option Addr) (cp:Nat),m≤16∧i= .int .i64 m∧v= .slice ao (k+m) cp∧OwnP w2 w.heap.size ao (k+m) cp (ps++marks m)∧Below w.heap.size w w2)
    (fun _ i _=>16-(intOf i).toNat)
   case atStart=>exact⟨0,ao,cp,by omega,rfl,rfl,by simpa[marks]using HO.out,HB.out⟩
   case round=>
    obtain⟨m,ao2,cp2,hm,rfl,rfl,hown2,hb2⟩:=hrel;have HB2:=hd' hb2;have HO2:=hd' hown2;have hsz2:=hb2.size;clear hb2 hown2
    by_cases hlt2:m<16
    ·go_wp2_with fail
     refine(mark_any m _).mono ?_;rintro e w3 ⟨rfl,hb3⟩;have hsz3:=hb3.size;have HO3:=hd' (HO2.out.kept hb3);have HB3:=hd' hb3;clear hb3;go_wp2_with (at_builtin;refine app_ins rfl _ _ rfl w.heap.size rfl HO3.out rfl (by omega) (by omega) ?_;intro ao' cp' w1 hown1 hb1 hs1);go_roundw
     case rel=>exact⟨m+1,ao',cp',by omega,by go_num,by rw[Nat.add_assoc],by rw[marks_succ,←List.append_assoc,markI_nat m (by omega)];exact hown1,(HB2.out.trans (HB3.out.mono (by omega))).trans hb1⟩
     case measure=>simp[intOf];omega
    ·obtain rfl:m=16:=by omega
     go_wp2
     go_ret;exact⟨ao2,cp2,rfl,HO2.out,HB2.out⟩
theorem OwnP.capLe{w:World}{base:Nat}{ao:Option Addr}{n cap:Nat}{qs:List B.Ins}(h:OwnP w base ao n cap qs):n≤cap:=by
 rcases h.own.2 with⟨hv,hn⟩ | ⟨g,cap',cur,hv,hg,hh,hle,_⟩
 ·omega
 ·cases hv;exact hle
theorem OwnP.capMax{w:World}{base:Nat}{ao:Option Addr}{n cap:Nat}{qs:List B.Ins}(h:OwnP w base ao n cap qs):cap≤9223372036854775807:=by
 rcases h.own.2 with⟨hv,hn⟩ | ⟨g,cap',cur,hv,hg,hh,hle,hm,_⟩
 ·cases hv;omega
 ·cases hv;exact hm
set_option maxHeartbeats 1000000 in
theorem lent_any(a:Option Addr)(len cap:Nat)(ps:List B.Ins)(w:World)(hp:ProgAt w a len ps)(hr:len*40≤140737488351232):
    Calls Tryz.prog 20 #[.slice a len cap] w fun e w'=>∃ao cap',e= .returned (.slice ao len cap')∧OwnP w' w.heap.size ao (len+16) cap' (ps++marks 16)∧Below w.heap.size w w':=by
 go_enter Tryz.func20,Tryz.ntmps20;go_wp2_with fail;refine(full_any a len cap ps _ hp hr).mono ?_;rintro e w1 ⟨ao,cap',rfl,hown,hb⟩;have hc:=hown.capLe;have hm:=hown.capMax;have HO:=hd' hown;have HB:=hd' hb
 have hl2:len≤cap':=by omega
 clear hown hb hp
 go_wp2
 go_ret;exact⟨ao,cap',rfl,HO.out,HB.out⟩
set_option maxHeartbeats 1000000 in
theorem keptfull_any(ao:Option Addr)(cap':Nat)(a:Option Addr)(len cap base:Nat)(ps:List B.Ins)(w:World)(ho:OwnP w base ao (len+16) cap' (ps++marks 16))(hp:ProgAt w a len ps)(hr:len*40≤140737488351232):
    Calls Tryz.prog 40 #[.slice ao (len+16) cap',.slice a len cap] w fun e w'=>e= .returned (.bool true)∧Below w.heap.size w w':=by
 have HP:=hd' hp;have HO:=hd' ho
 have hlen:len≤3518437208780:=by omega
 clear hp ho;go_enter Tryz.func40,Tryz.ntmps40
 go_wp2
 go_loopw [5] (fun i wr=>∃(k:Nat),k≤len+16∧i= .int .i64 k∧Below w.heap.size w wr)
  (fun i _=>len+16-(intOf i).toNat)
 case atStart=>exact⟨0,Nat.zero_le _,rfl,Below.refl _ _⟩
 case round=>
  obtain⟨k,hk,rfl,hb⟩:=hrel;have HB:=hd' hb;have hsz:=hb.size;clear hb
  by_cases hlt:k<len+16
  ·go_wp2_with fail
   refine(mark_any _ _).mono ?_;rintro e w3 ⟨rfl,hb3⟩
   by_cases hk2:k<len
   ·have hx:ps[k]? =some (ps[k]'(by have:=HP.out.len;omega)):=List.getElem?_eq_getElem _
    generalize ps[k]'(by have:=HP.out.len;omega)=x at hx;obtain⟨b,off,rfl,hbl,hat⟩:=HP.out.at_ k x hx;obtain⟨h0,h1,h2,h3,h4⟩:=(hat.below HB.out hbl).below hb3 (by omega)
    have hx2:(ps++marks 16)[k]? =some x:=by rw[List.getElem?_append_left (by have:=HP.out.len;omega)];exact hx
    obtain⟨g,rfl,hg1,hg2,hat2⟩:=HO.out.insAt hx2;obtain⟨g0,g1,g2,g3,g4⟩:=(hat2.below HB.out hg2).below hb3 (by omega);have hsz3:=hb3.size
    have hbs:b<w3.heap.size:=by omega
    have hgs:g<w3.heap.size:=by have:=HB.out.size;omega
    have HB3:=hd' hb3;clear hx hx2 hat hat2 hb3;go_wp2_with fail
    go_quiet (fail)
    go_wp2_with fail;go_roundw
    case rel=>exact⟨k+1,by omega,by go_num,belowN ((HB.out.trans (HB3.out.mono (by omega))).alloc (by omega) _) _⟩
    case measure=>simp[intOf];omega
   ·have hx2:(ps++marks 16)[k]? =some (markI ((k:Int)-len)):=by
      rw[List.getElem?_append_right (by have:=HP.out.len;omega),marks,List.getElem?_map,List.getElem?_range (by have:=HP.out.len;omega)];simp only[Option.map_some];congr 2;have:=HP.out.len;omega
    obtain⟨g,rfl,hg1,hg2,hat2⟩:=HO.out.insAt hx2;obtain⟨g0,g1,g2,g3,g4⟩:=(hat2.below HB.out hg2).below hb3 (by have:=HB.out.size;omega);have hsz3:=hb3.size
    have hgs:g<w3.heap.size:=by have:=HB.out.size;omega
    have HB3:=hd' hb3;simp only[markI]at g0 g1 g2 g3 g4;clear hx2 hat2 hb3;go_wp2_with fail
    go_quiet (fail)
    go_wp2_with fail;go_roundw
    case rel=>exact⟨k+1,by omega,by go_num,belowN ((HB.out.trans (HB3.out.mono (by omega))).alloc (by omega) _) _⟩
    case measure=>simp[intOf];omega
  ·go_wp2
   go_ret;exact⟨rfl,HB.out⟩
set_option maxHeartbeats 1000000 in
theorem kept_any(ao:Option Addr)(cap':Nat)(a:Option Addr)(len cap base:Nat)(ps:List B.Ins)(w:World)(ho:OwnP w base ao (len+16) cap' (ps++marks 16))(hp:ProgAt w a len ps)(hr:len*40≤140737488351232):
    Calls Tryz.prog 24 #[.slice ao len cap',.slice a len cap] w fun e w'=>e= .returned (.bool true)∧Below w.heap.size w w':=by
 have hc:=ho.capLe;have hm:=ho.capMax;have HP:=hd' hp;have HO:=hd' ho
 have hlen:len≤3518437208780:=by omega
 clear hp ho;go_enter Tryz.func24,Tryz.ntmps24;go_wp2_with fail;refine(keptfull_any _ _ _ _ _ base ps _ HO.out HP.out hr).mono ?_;rintro e w3 ⟨rfl,hb3⟩;have HB:=hd' hb3;clear hb3
 go_wp2
 go_ret;exact⟨rfl,HB.out⟩
end Go.Proofs.YtpibampaobncaaaGreatDoor
