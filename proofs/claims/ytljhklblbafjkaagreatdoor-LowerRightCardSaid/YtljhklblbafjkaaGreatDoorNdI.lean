/- busbarkit: four lists of instructions that were handed out, written over: marks; the lists in memory. -/
import Derived.Test.YtljhklblbafjkaaGreatDoorNdV
import Derived.Deep.DeepAppendRoom
import Derived.ArgAppend
import Derived.Deep.QuietTactic
import Derived.BigQuiet
open Go.Lib renaming hid→hd'
open List renaming setIfInBounds_toArray→sA',set_cons_zero→sZ',set_cons_succ→sS'
namespace Go.Proofs.YtljhklblbafjkaaGreatDoor
open Go.RowKit
namespace Code
attribute [local go_sem ↓] Go.wp_at_zero Go.wp_at_succ
def patchV:List Value→Nat→List Value→List Value
 | xs,_,[]=>xs
 | xs,o,v::vs=>patchV (xs.set o v) (o+1) vs
theorem patchV_length:∀(cs xs:List Value) (o:Nat),(patchV xs o cs).length=xs.length
 | [],_,_=>rfl
 | v::vs,xs,o=>by unfold patchV;rw[patchV_length vs];simp
theorem patchV_get:∀(cs xs:List Value) (o i:Nat),i<xs.length→(patchV xs o cs)[i]? =if o≤i∧i<o+cs.length then cs[i-o]? else xs[i]?
 | [],xs,o,i,_=>by unfold patchV;rw[if_neg (by simp<;>omega)]
 | v::vs,xs,o,i,hi=>by
  unfold patchV;rw[patchV_get vs (xs.set o v) (o+1) i (by simpa using hi)]
  by_cases h1:i=o
  ·subst h1
   rw[if_neg (by omega),if_pos (by simp),Nat.sub_self,List.getElem?_set_self hi];rfl
  ·rw[List.getElem?_set_ne (Ne.symm h1)]
   by_cases h2:o+1≤i∧i<o+1+vs.length
   ·rw[if_pos h2,if_pos (by simp;omega),show i-o=(i-(o+1))+1 by omega,List.getElem?_cons_succ]
   ·rw[if_neg h2,if_neg (by simp;omega)]
theorem own_setCells{base E size g n c:Nat}:∀(cs xs:List Value) (o:Nat) (w:World),w.ownsRow base E size (.slice (some ⟨g,0,none⟩) n c) n xs→
    (w.setCells g o cs).ownsRow base E size (.slice (some ⟨g,0,none⟩) n c) n (patchV xs o cs)∧w.grownBy (w.setCells g o cs) (some g)
 | [],xs,o,w,h=>⟨h,World.grownBy.refl _ _⟩
 | v::vs,xs,o,w,h=>by
  have h1:=World.ownsRow.stored h o v;have h2:=own_setCells vs (xs.set o v) (o+1) (w.setCell ⟨g,o,none⟩ v) h1.1;exact⟨h2.1,h1.2.trans h2.2⟩
theorem own_weaken2{w:World}{base base':Nat}{ao:Option Addr}{n cap:Nat}{qs:List B.Ins}(h:OwnP w base ao n cap qs)(hb:base'≤base):OwnP w base' ao n cap qs:=by
 refine⟨h.len,h.own.1, ?_⟩;rcases h.own.2 with h0 | ⟨g,c,cur,h1,h2,h3⟩
 ·exact .inl h0
 ·exact .inr ⟨g,c,cur,h1,Nat.le_trans hb h2,h3⟩
def markK(k i:Nat):B.Ins:=⟨-7-(k:Int),0,0,0,(i:Int)⟩
def markL(k n:Nat):List B.Ins:=(List.range n).map (markK k)
theorem markL_length(k n:Nat):(markL k n).length=n:=by simp[markL]
theorem markL_get(k n i:Nat)(h:i<n):(markL k n)[i]? =some (markK k i):=by
 unfold markL;rw[List.getElem?_map,List.getElem?_range h];rfl
theorem markL_succ(k n:Nat):markL k (n+1)=markL k n++[markK k n]:=by unfold markL;rw[List.range_succ,List.map_append];rfl
theorem markL_take(k n m:Nat)(h:m≤n):(markL k n).take m=markL k m:=by
 unfold markL;rw[←List.map_take,List.take_range,Nat.min_eq_left h]
def MarkOut(k i:Nat)(w:World)(e:Ending)(w':World):Prop:=e= .returned (.agg #[.int .i64 (-7-(k:Int)),.int .i64 0,.int .i64 0,.int .i64 0,.int .u64 (i:Int)])∧Below w.heap.size w w'
theorem markK_any(k i:Nat)(hk:k≤100)(hi:i≤1000000)(w:World):
    Calls Tryz.prog 48 #[.int .i64 k,.int .i64 i] w (MarkOut k i w):=by
 have x1:IntKind.i64.wrap (-7-(k:Int))= -7-(k:Int):=IntWalk.i64_in _ (by omega);have x2:IntKind.u64.wrap (i:Int)=(i:Int):=IntWalk.u64_in _ (by omega);go_enter Tryz.func48,Tryz.ntmps48
 go_wp2
 exact bodyPost_ret (v:=.agg #[.int .i64 (-7-(k:Int)),.int .i64 0,.int .i64 0,.int .i64 0,.int .u64 (i:Int)]) (by simp[results,Tryz.results48,go_sem]) rfl ⟨rfl,(Below.refl _ _).alloc (Nat.le_refl _) _⟩
theorem cellsP_set(qs:List B.Ins)(j:Nat)(x:B.Ins)(hj:j<qs.length):cellsP (qs.set j x)=patchV (cellsP qs) (j*5) (cellsI x):=by
 apply List.ext_getElem?;intro i
 by_cases hi:i<qs.length*5
 ·rw[patchV_get _ _ _ _ (by rw[cellsP_length];exact hi),cellsI_length]
  obtain⟨q,r,hr,rfl⟩:∃q r,r<5∧i=q*5+r:=⟨i/5,i%5,Nat.mod_lt _ (by omega),by omega⟩
  have hq:q<qs.length:=by omega
  by_cases e:q=j
  ·subst e
   rw[if_pos (by omega),show q*5+r-q*5=r by omega,cellsP_get (qs.set q x) q x (List.getElem?_set_self hj) r hr]
  ·rw[if_neg (by omega),cellsP_get (qs.set j x) q qs[q] (by rw[List.getElem?_set_ne (Ne.symm e)];exact List.getElem?_eq_getElem hq) r hr,cellsP_get qs q qs[q] (List.getElem?_eq_getElem hq) r hr]
 ·rw[List.getElem?_eq_none (by rw[cellsP_length,List.length_set];omega),List.getElem?_eq_none (by rw[patchV_length,cellsP_length];omega)]
theorem ownP_put{w:World}{base g n cap:Nat}{qs:List B.Ins}(h:OwnP w base (some ⟨g,0,none⟩) n cap qs)(j:Nat)(x:B.Ins)(hj:j<n):OwnP (w.setCells g (j*5) (cellsI x)) base (some ⟨g,0,none⟩) n cap (qs.set j x):=by
 have h1:=(own_setCells (cellsI x) _ (j*5) w h.own).1;exact⟨by rw[List.length_set];exact h.len,by rw[cellsP_set qs j x (by rw[←h.len];exact hj)];exact h1⟩
structure Lists(N L:Nat)(A:Nat→Option Addr)(n c:Nat→Nat)(X:Nat→List B.Ins)(w:World):Prop where
 tab:w.heap[L]? =some (.cells #[.slice (A 0) (n 0) (c 0),.slice (A 1) (n 1) (c 1),.slice (A 2) (n 2) (c 2),.slice (A 3) (n 3) (c 3)] 30 (0,0))
 own:∀k,k<4→OwnP w N (A k) (n k) (c k) (X k)
 ne:∀j k g,j<4→k<4→j≠k→A j=some ⟨g,0,none⟩→A k≠some ⟨g,0,none⟩
theorem Lists.cell{N L:Nat}{A:Nat→Option Addr}{n c:Nat→Nat}{X:Nat→List B.Ins}{w:World}(h:Lists N L A n c X w){k:Nat}(hk:k<4):w.cell? ⟨L,k,none⟩=some (.slice (A k) (n k) (c k)):=by
 rw[cell_of_row _ _ _ _ _ _ h.tab]
 have:k=0∨k=1∨k=2∨k=3:=by omega
 rcases this with rfl | rfl | rfl | rfl<;>rfl
theorem Lists.below{N L:Nat}{A:Nat→Option Addr}{n c:Nat→Nat}{X:Nat→List B.Ins}{w w':World}(h:Lists N L A n c X w)(hb:Below w.heap.size w w'):Lists N L A n c X w':=
 ⟨(hb.block L (lt_of_block h.tab)).trans h.tab,fun k hk=>(h.own k hk).kept hb,h.ne⟩
theorem ownP_keep{w w':World}{base n cap:Nat}{ao:Option Addr}{qs:List B.Ins}(h:OwnP w base ao n cap qs)(he:∀g,ao=some ⟨g,0,none⟩→w'.heap[g]? =w.heap[g]?):OwnP w' base ao n cap qs:=by
 refine⟨h.len,h.own.1, ?_⟩;rcases h.own.2 with h2 | ⟨g',c,cur,e,hb,hh,h3⟩
 ·exact .inl h2
 ·refine .inr ⟨g',c,cur,e,hb, ?_,h3⟩
  injection e with e _ _;exact(he g' e).trans hh
theorem Lists.put{N L:Nat}{A:Nat→Option Addr}{n c:Nat→Nat}{X:Nat→List B.Ins}{w:World}(h:Lists N L A n c X w){k g:Nat}(hk:k<4)(hA:A k=some ⟨g,0,none⟩)(j:Nat)(x:B.Ins)(hj:j<n k):
    Lists N L A n c (fun q=>if q=k then(X k).set j x else X q) (w.setCells g (j*5) (cellsI x)):=by
 have hg:=grownBy_setCells g (cellsI x) (j*5) w;have ho:=h.own k hk;rw[hA]at ho
 have hLg:L≠g:=by
  have:=own_ne ho.own h.tab (by decide);intro e;apply this;rw[e];rfl
 refine⟨(hg.block L (lt_of_block h.tab) (by simpa using hLg)).trans h.tab,fun q hq=> ?_,h.ne⟩
 by_cases e:q=k
 ·subst e
  simp only[if_true];rw[hA];exact ownP_put ho j x hj
 ·simp only[if_neg e]
  refine ownP_keep (h.own q hq) (fun g' hg'=>hg.block g' ?_ ?_)
  ·have:=h.own q hq
   rw[hg']at this;exact(this.own.lt g' rfl).2
  ·intro e2
   have e3:g'=g:=Option.some.inj e2;subst e3;exact h.ne q k g' hq hk e hg' hA
theorem Lists.blk{N L:Nat}{A:Nat→Option Addr}{n c:Nat→Nat}{X:Nat→List B.Ins}{w:World}(h:Lists N L A n c X w){k i:Nat}(hk:k<4)(hi:i<n k):∃g,A k=some ⟨g,0,none⟩∧N≤g∧g<w.heap.size:=by
 have ho:=h.own k hk;rcases ho.own.2 with⟨_,h0⟩ | ⟨g,cap',cur,e,_⟩
 ·omega
 ·injection e with e _ _
  rw[e]at ho;exact⟨g,e,ho.own.lt g rfl⟩
theorem there_of_own{w:World}{base g n cap:Nat}{qs:List B.Ins}(h:OwnP w base (some ⟨g,0,none⟩) n cap qs){j:Nat}(hj:j<n):w.there g (j*5) 5:=by
 intro r hr
 have hlt:j*5+r<n*5:=by omega
 have hl:=h.own.1;refine⟨?_,World.ownsRow.frozenAt h.own _⟩;rw[World.ownsRow.cellAt h.own _ hlt,List.getElem?_eq_getElem (by omega)];rfl
def XA(n:Nat→Nat)(X:Nat→List B.Ins)(k i:Nat):Nat→List B.Ins:=fun q=>if q<k then markL q (n q)else if q=k then markL k i++(X k).drop i else X q
theorem XA_start(n:Nat→Nat)(X:Nat→List B.Ins):XA n X 0 0=X:=by
 funext q
 unfold XA;rw[if_neg (by omega)]
 by_cases h:q=0
 ·subst h;rw[if_pos rfl];simp[markL]
 ·rw[if_neg h]
theorem XA_len{n:Nat→Nat}{X:Nat→List B.Ins}{k i:Nat}(h:n k=(XA n X k i k).length)(hi:i<n k):(X k).length=n k:=by
 unfold XA at h;rw[if_neg (by omega),if_pos rfl,List.length_append,markL_length,List.length_drop]at h;omega
theorem XA_next{n:Nat→Nat}{X:Nat→List B.Ins}{k i:Nat}(hl:(X k).length=n k)(hi:i<n k):(fun q=>if q=k then(XA n X k i k).set i (markK k i)else XA n X k i q)=XA n X k (i+1):=by
 funext q
 unfold XA
 by_cases h2:q=k
 ·subst h2
  rw[if_pos rfl,if_neg (by omega),if_pos rfl,if_neg (by omega),if_pos rfl,markL_succ]
  have hlt3:i<(X q).length:=by omega
  rw[List.drop_eq_getElem_cons hlt3,List.set_append_right _ _ (by rw[markL_length];exact Nat.le_refl _),markL_length,Nat.sub_self,sZ',List.append_assoc];rfl
 ·rw[if_neg h2]
  by_cases h1:q<k
  ·rw[if_pos h1,if_pos h1]
  ·rw[if_neg h1,if_neg h1,if_neg h2,if_neg h2]
theorem XA_done{n:Nat→Nat}{X:Nat→List B.Ins}{k:Nat}(hl:n k=(XA n X k (n k) k).length):XA n X k (n k)=XA n X (k+1) 0:=by
 have hlX:(X k).drop (n k)=[]:=by
  unfold XA at hl;rw[if_neg (by omega),if_pos rfl,List.length_append,markL_length]at hl;exact List.eq_nil_of_length_eq_zero (by omega)
 funext q
 unfold XA
 by_cases h1:q<k
 ·rw[if_pos h1,if_pos (by omega)]
 ·rw[if_neg h1]
  by_cases h2:q=k
  ·subst h2;rw[if_pos rfl,if_pos (by omega),hlX,List.append_nil]
  ·rw[if_neg h2,if_neg (by omega)]
   by_cases h3:q=k+1
   ·subst h3;rw[if_pos rfl];simp[markL]
   ·rw[if_neg h3]
theorem ownp_form{w:World}{base n cap:Nat}{ao:Option Addr}{qs:List B.Ins}(h:OwnP w base ao n cap qs):(ao=none∧n=0∧cap=0)∨∃g,ao=some ⟨g,0,none⟩∧base≤g∧g<w.heap.size:=by
 rcases h.own.2 with⟨h0,h1⟩ | ⟨g,c,cur,e,hb,hh,h3⟩
 ·injection h0 with e1 e2 e3
  exact .inl ⟨e1,h1,e3⟩
 ·have hh2:=lt_of_block hh
  injection e with e _ _;exact .inr ⟨g,e,hb,hh2⟩
theorem own_prefix{w:World}{base n cap m:Nat}{ao:Option Addr}{qs:List B.Ins}(h:OwnP w base ao n cap qs)(hm:m≤n):OwnP w base ao m cap (qs.take m):=by
 have hl:m=(qs.take m).length:=by rw[List.length_take,←h.len];omega
 have ht:(cellsP qs).take (m*5)=cellsP (qs.take m):=by
  have e:=List.take_append_drop m qs
  have e2:cellsP qs=cellsP (qs.take m)++cellsP (qs.drop m):=by rw[←cellsP_append,e]
  rw[e2,List.take_left' (by rw[cellsP_length,←hl])]
 refine⟨hl,by rw[cellsP_length,←hl], ?_⟩;rcases h.own.2 with⟨h0,h1⟩ | ⟨g,c,cur,e,hb,hh,hnc,hcm,hcs,htake⟩
 ·injection h0 with e1 e2 e3
  have hm0:m=0:=by omega
  exact .inl ⟨by rw[e1,hm0,e3],hm0⟩
 ·injection e with e1 e2 e3
  refine .inr ⟨g,c,cur,by rw[e1,e3],hb,hh,by omega,hcm,hcs, ?_⟩;rw[←ht,←htake,List.take_take,Nat.min_eq_left (Nat.mul_le_mul_right 5 hm)]
theorem app_two{ops:Array Oper}{rest:List Oper}{o:Oper}{a:Act}{Q:Exit→Act→World→Prop}{w:World}(hgd:o.guard=none)(s x:Operand)
    (ho:o.op= .call { callee:=.builtin .append,args:= #[s,x],argTypes:= #[30,30]})
    (base:Nat) {ao:Option Addr} {n cap:Nat} {qs:List B.Ins} {c0 c1 c2 c3 c4:Int} (hs:a.eval s= .slice ao n cap) (hown:OwnP w base ao n cap qs)
    (hx:a.eval x= .slice (some ⟨w.heap.size,0,none⟩) 1 1) (hbytes:(n+1)*40≤140737488355328) (hbase:base≤w.heap.size)
    (h:∀ao' cap' w',OwnP w' base ao' (n+1) cap' (qs++[⟨c0,c1,c2,c3,c4⟩])→(∀b,b<w.heap.size→ao≠some ⟨b,0,none⟩→w'.heap[b]? =w.heap[b]?)→
     ((ao'=ao∧cap'=cap)∨((∃g,ao'=some ⟨g,0,none⟩∧w.heap.size≤g)∧∀b,b<w.heap.size→w'.heap[b]? =w.heap[b]?))→Below base w w'→wpList Tryz.prog ops Q rest (a.put o.dst (.slice ao' (n+1) cap')) w'):
    wpList Tryz.prog ops Q (o::rest) a (w.alloc (.cells #[.int .i64 c0,.int .i64 c1,.int .i64 c2,.int .i64 c3,.int .u64 c4] 74)):=by
 obtain⟨i,hi,hz0,hz1,hz2⟩:=info_parts info74
 have hnews:∀(j:Nat) u,(cellsI ⟨c0,c1,c2,c3,c4⟩)[j]? =some u→(w.alloc (.cells #[.int .i64 c0,.int .i64 c1,.int .i64 c2,.int .i64 c3,.int .u64 c4] 74)).cell? ((⟨w.heap.size,0,none⟩:Addr).add j)=some u:=by
  intro j u hu
  have e:(⟨w.heap.size,0,none⟩:Addr).add j=⟨w.heap.size,j,none⟩:=by unfold Addr.add;split<;>simp_all
  rw[e,cell_of_row _ _ _ _ _ _ (heap_alloc_new w _)];simpa[cellsI]using hu
 have hones:∀u∈cellsI ⟨c0,c1,c2,c3,c4⟩,u.oneCell'=true:=cellsI_one _;have hqa:=hown.own.alloc (.cells #[.int .i64 c0,.int .i64 c1,.int .i64 c2,.int .i64 c3,.int .u64 c4] 74);have hba:Below base w (w.alloc (.cells #[.int .i64 c0,.int .i64 c1,.int .i64 c2,.int .i64 c3,.int .u64 c4] 74)):=(Below.refl base w).alloc hbase _
 by_cases hroom:n+1≤cap
 ·rcases ownp_form hown with⟨_,_,e3⟩ | ⟨g,rfl,hgb,hgw⟩
  ·omega
  ·refine wpList_append_own_spare _ hgd s x 30 ho base 74 i 5 Tryz.underlying30 hi hz1 g n cap (cellsP qs) hs hqa ⟨w.heap.size,0,none⟩ 1 1 (cellsI ⟨c0,c1,c2,c3,c4⟩) hx rfl hnews hones hroom ?_
   intro w' hown' hg;refine h _ _ w' ⟨by rw[List.length_append,←hown.len];rfl,by rw[cellsP_append,cellsP_one];exact hown'⟩ (fun b hb hne=> ?_) (.inl ⟨rfl,rfl⟩) (hba.grown hg (by simp;omega) (fun k hk=>by have:=Option.some.inj hk;omega));exact(hg.block b (by simp;omega) (fun e=>hne (by rw[Option.some.inj e]))).trans (heap_alloc_old _ _ hb)
 ·refine wpList_append_grows _ hgd s x 30 ho 74 i _ 5 40 Tryz.underlying30 hi hz0 hz1 hz2 rfl (by decide) ao n cap (cellsP qs) hs (fun e=> ?_) (by rw[cellsP_length,←hown.len]) (fun b e j u hu=> ?_) ⟨w.heap.size,0,none⟩ 1 1 (cellsI ⟨c0,c1,c2,c3,c4⟩) hx rfl hnews hones (by omega) (by simp only[maxLen];omega) hbytes ?_
  ·rcases ownp_form hown with⟨_,e2,e3⟩ | ⟨g,e1,_⟩
   ·exact⟨e2,e3⟩
   ·rw[e]at e1;cases e1
  ·rcases ownp_form hown with⟨e1,_⟩ | ⟨g,e1,_⟩
   ·rw[e]at e1;cases e1
   ·rw[e]at e1
    have e4:=Option.some.inj e1;subst e4;rw[e]at hqa;exact hqa.cells (g:=g) rfl j u hu
  ·intro v' w' hown' hg
   rcases hown'.2 with⟨_,hn⟩ | ⟨g,cap',cur,rfl,hbg,rest'⟩
   ·omega
   ·have hbg2:w.heap.size≤g:=by simp at hbg;omega
    refine h _ _ w' (own_weaken2 (base:=(w.alloc (.cells #[.int .i64 c0,.int .i64 c1,.int .i64 c2,.int .i64 c3,.int .u64 c4] 74)).heap.size) ⟨by rw[List.length_append,←hown.len];rfl,by rw[cellsP_append,cellsP_one];exact hown'⟩ (by simp;omega)) (fun b hb _=> ?_) (.inr ⟨⟨g,rfl,hbg2⟩,fun b hb=> ?_⟩) (hba.grown hg (by simp;omega) (fun k hk=>by cases hk))
    ·exact(hg.block b (by simp;omega) (by simp)).trans (heap_alloc_old _ _ hb)
    ·exact(hg.block b (by simp;omega) (by simp)).trans (heap_alloc_old _ _ hb)
theorem Lists.app{N L:Nat}{A:Nat→Option Addr}{n c:Nat→Nat}{w w':World}(h:Lists N L A n c (fun j=>markL j (n j)) w){k m cap cap':Nat}{ao ao':Option Addr}(hk:k<4)(hm:n k≤m)
    (hl:(ao=A k∧cap=c k)∨(∃g,ao=some ⟨g,0,none⟩∧∀j,j<4→A j≠some ⟨g,0,none⟩)) (hao:OwnP w N ao m cap (markL k m)) (hown':OwnP w' N ao' (m+1) cap' (markL k (m+1)))
    (hkeep:∀b,b<w.heap.size→ao≠some ⟨b,0,none⟩→w'.heap[b]? =w.heap[b]?) (hat:(ao'=ao∧cap'=cap)∨∀b,b<w.heap.size→w'.heap[b]? =w.heap[b]?):Lists N L A n c (fun j=>markL j (n j)) w':=by
 have hblk:∀j,j<4→∀g,A j=some ⟨g,0,none⟩→g<w.heap.size:=by
  intro j hj g hg;have:=h.own j hj;rw[hg]at this;exact(this.own.lt g rfl).2
 refine⟨(hkeep L (lt_of_block h.tab) ?_).trans h.tab,fun j hj=> ?_,h.ne⟩
 ·intro e
  rw[e]at hao;exact own_ne hao.own h.tab (by decide) rfl
 ·by_cases e:j=k
  ·subst e
   rcases hat with⟨rfl,rfl⟩ | hall
   ·rcases hl with⟨rfl,rfl⟩ | ⟨g,rfl,hfar⟩
    ·have:=own_prefix hown' (m:=n j) (by omega)
     rw[markL_take _ _ _ (by omega)]at this;exact this
    ·exact ownP_keep (h.own j hj) (fun g' hg'=>hkeep g' (hblk j hj g' hg') (fun e=>hfar j hj (by rw[hg',e])))
   ·exact ownP_keep (h.own j hj) (fun g' hg'=>hall g' (hblk j hj g' hg'))
  ·refine ownP_keep (h.own j hj) (fun g' hg'=>hkeep g' (hblk j hj g' hg') (fun e2=> ?_))
   rcases hl with⟨rfl,_⟩ | ⟨g,rfl,hfar⟩
   ·exact h.ne j k g' hj hk e hg' e2
   ·exact hfar j hj (by rw[hg',e2])
structure Grw(N L Z:Nat)(A:Nat→Option Addr)(n c:Nat→Nat)(G:Nat→Option Addr)(C:Nat→Nat)(k:Nat)(v:Value)(w:World):Prop where
 ls:Lists N L A n c (fun j=>markL j (n j)) w
 new:∀j,j<k→OwnP w N (G j) (n j+64) (C j) (markL j (n j+64))
 far:∀j m g,j<k→k≤m→m<4→G j=some ⟨g,0,none⟩→A m≠some ⟨g,0,none⟩
 gs:w.ownsRow Z 30 1 v k ((List.range k).map fun j=>.slice (G j) (n j+64) (C j))
theorem infoI30:(Tryz.prog.info? 30).map (fun i=>(i.zero,i.size,i.bytes))=some (some (.slice none 0 0),1,24):=by kernel_rfl
theorem own_keepV{w w':World}{base E size n:Nat}{v:Value}{xs:List Value}(h:w.ownsRow base E size v n xs)(hg:∀k,v.ownBlock=some k→w'.heap[k]? =w.heap[k]?):w'.ownsRow base E size v n xs:=by
 refine⟨h.1, ?_⟩;rcases h.2 with h2 | ⟨g,cap,cur,rfl,hb,hh,h3⟩
 ·exact .inl h2
 ·exact .inr ⟨g,cap,cur,rfl,hb,(hg g rfl).trans hh,h3⟩
theorem own_own_ne{w:World}{base base' E E' size size' n n':Nat}{v v':Value}{xs xs':List Value}(h:w.ownsRow base E size v n xs)(h':w.ownsRow base' E' size' v' n' xs')(hne:E≠E'){b:Nat}(hb:v'.ownBlock=some b):v.ownBlock≠some b:=by
 rcases h'.2 with⟨rfl,_⟩ | ⟨g,cap,cur,rfl,_,hh,_⟩
 ·cases hb
 ·have:g=b:=Option.some.inj hb
  subst this;exact own_ne h hh hne
structure Rg(N L:Nat)(A:Nat→Option Addr)(n c:Nat→Nat)(k i:Nat)(ao:Option Addr)(cap:Nat)(wo wy:World):Prop where
 ls:Lists N L A n c (fun j=>markL j (n j)) wy
 own:OwnP wy N ao (n k+i) cap (markL k (n k+i))
 keep:∀b,b<wo.heap.size→A k≠some ⟨b,0,none⟩→wy.heap[b]? =wo.heap[b]?
 lies:(ao=A k∧cap=c k)∨∃g,ao=some ⟨g,0,none⟩∧wo.heap.size≤g
 bel:Below N wo wy
theorem Rg.start{N L:Nat}{A:Nat→Option Addr}{n c:Nat→Nat}{k:Nat}{wo:World}(h:Lists N L A n c (fun j=>markL j (n j)) wo)(hk:k<4):Rg N L A n c k 0 (A k) (c k) wo wo:=
 ⟨h,h.own k hk,fun _ _ _=>rfl,.inl ⟨rfl,rfl⟩,Below.refl _ _⟩
theorem Lists.lt{N L:Nat}{A:Nat→Option Addr}{n c:Nat→Nat}{X:Nat→List B.Ins}{w:World}(h:Lists N L A n c X w){j g:Nat}(hj:j<4)(hg:A j=some ⟨g,0,none⟩):N≤g∧g<w.heap.size:=by
 have:=h.own j hj;rw[hg]at this;exact this.own.lt g rfl
theorem Rg.next{N L:Nat}{A:Nat→Option Addr}{n c:Nat→Nat}{k i:Nat}{ao ao':Option Addr}{cap cap':Nat}{wo wy w5 w6:World}(h:Rg N L A n c k i ao cap wo wy)(hk:k<4)(hA:∀j g,j<4→A j=some ⟨g,0,none⟩→g<wo.heap.size)
    (hb5:Below wy.heap.size wy w5) (hown':OwnP w6 N ao' (n k+i+1) cap' (markL k (n k+i+1))) (hkeep:∀b,b<w5.heap.size→ao≠some ⟨b,0,none⟩→w6.heap[b]? =w5.heap[b]?)
    (hat:(ao'=ao∧cap'=cap)∨((∃g,ao'=some ⟨g,0,none⟩∧w5.heap.size≤g)∧∀b,b<w5.heap.size→w6.heap[b]? =w5.heap[b]?)) (hb6:Below N w5 w6) (hN:N≤wo.heap.size):Rg N L A n c k (i+1) ao' cap' wo w6:=by
 have hsy:wo.heap.size≤wy.heap.size:=h.bel.size;have hs5:wy.heap.size≤w5.heap.size:=hb5.size
 have hl:(ao=A k∧cap=c k)∨(∃g,ao=some ⟨g,0,none⟩∧∀j,j<4→A j≠some ⟨g,0,none⟩):=by
  rcases h.lies with h1 | ⟨g,hg,hge⟩
  ·exact .inl h1
  ·exact .inr ⟨g,hg,fun j hj e=>by have:=hA j g hj e;omega⟩
 refine⟨Lists.app (h.ls.below hb5) hk (Nat.le_add_right _ _) hl (h.own.kept hb5) hown' hkeep (hat.imp id (fun h=>h.2)),hown',fun b hb hne=> ?_, ?_,(h.bel.trans (hb5.mono (by omega))).trans hb6⟩
 ·have e5:w5.heap[b]? =wo.heap[b]? :=(hb5.block b (by omega)).trans (h.keep b hb hne)
  refine(hkeep b (by omega) (fun e=> ?_)).trans e5;rcases h.lies with⟨h1,_⟩ | ⟨g,hg,hge⟩
  ·exact hne (by rw[←h1,e])
  ·rw[hg]at e
   have:g=b:=by injection e with e;injection e
   omega
 ·rcases hat with⟨rfl,rfl⟩ | ⟨⟨g,hg,hge⟩,_⟩
  ·exact h.lies
  ·exact .inr ⟨g,hg,by omega⟩
theorem Grw.next{N L Z:Nat}{A G:Nat→Option Addr}{n c C:Nat→Nat}{k c5 c6 cap:Nat}{ao5 ao6 ao:Option Addr}{wo wy w6:World}{o:Obj}(h:Grw N L Z A n c G C k (.slice ao5 k c5) wo)(hL:L<Z)(hk:k<4)(r:Rg N L A n c k 64 ao cap wo wy)
    (hown6:w6.ownsRow Z 30 1 (.slice ao6 (k+1) c6) (k+1) (((List.range k).map fun j=>.slice (G j) (n j+64) (C j))++[.slice ao (n k+64) cap])) (hg6:(wy.alloc o).grownBy w6 (Value.ownBlock (.slice ao5 k c5))):
    Grw N L Z A n c (fun j=>if j=k then ao else G j) (fun j=>if j=k then cap else C j) (k+1) (.slice ao6 (k+1) c6) w6:=by
 have hkeep:∀b,b<wy.heap.size→Value.ownBlock (.slice ao5 k c5)≠some b→w6.heap[b]? =wy.heap[b]? :=fun b hb hne=>(hg6.block b (by simp;omega) (Ne.symm hne)).trans (heap_alloc_old _ _ hb)
 have hblk:∀ {j g:Nat},j<4→A j=some ⟨g,0,none⟩→Value.ownBlock (.slice ao5 k c5)≠some g:=by
  intro j g hj hg;have:=h.ls.own j hj;exact own_own_ne h.gs this.own (by decide) (by rw[hg];rfl)
 have hgy:wy.ownsRow Z 30 1 (.slice ao5 k c5) k ((List.range k).map fun j=>.slice (G j) (n j+64) (C j)):=
  own_keepV h.gs (fun b hb=>r.keep b (h.gs.lt b hb).2 (fun e=>hblk hk e hb))
 refine⟨⟨(hkeep L (lt_of_block r.ls.tab) (fun e=> ?_)).trans r.ls.tab,fun j hj=>ownP_keep (r.ls.own j hj) (fun g hg=>hkeep g (r.ls.lt hj hg).2 (hblk hj hg)),h.ls.ne⟩,fun j hj=> ?_,fun j m g hj hm hm2 hg=> ?_, ?_⟩
 ·have:=(h.gs.lt L e).1;omega
 ·by_cases e:j=k
  ·subst e
   simp only[if_true];refine ownP_keep r.own (fun g hg=> ?_)
   have hlt:g<wy.heap.size:=by
    have:=r.own;rw[hg]at this;exact(this.own.lt g rfl).2
   exact hkeep g hlt (own_own_ne hgy r.own.own (by decide) (by rw[hg];rfl))
  ·simp only[if_neg e]
   have hj':j<k:=by omega
   have hny:OwnP wy N (G j) (n j+64) (C j) (markL j (n j+64)):=by
    refine ownP_keep (h.new j hj') (fun g hg=>r.keep g ?_ (h.far j k g hj' (Nat.le_refl _) hk hg));have:=h.new j hj';rw[hg]at this;exact(this.own.lt g rfl).2
   refine ownP_keep hny (fun g hg=> ?_)
   have hlt:g<wy.heap.size:=by
    have:=hny;rw[hg]at this;exact(this.own.lt g rfl).2
   exact hkeep g hlt (own_own_ne hgy hny.own (by decide) (by rw[hg];rfl))
 ·by_cases e:j=k
  ·subst e
   simp only[if_true]at hg;rcases r.lies with⟨h1,_⟩ | ⟨g',hg',hge⟩
   ·exact h.ls.ne j m g hk hm2 (by omega) (by rw[←h1,hg])
   ·intro e2
    have:=(h.ls.lt hm2 e2).2;rw[hg']at hg
    have:g'=g:=by injection hg with hg;injection hg
    omega
  ·simp only[if_neg e]at hg
   exact h.far j m g (by omega) (by omega) hm2 hg
 ·have e:(List.range (k+1)).map (fun j=>Value.slice (if j=k then ao else G j) (n j+64) (if j=k then cap else C j))=((List.range k).map fun j=>.slice (G j) (n j+64) (C j))++[.slice ao (n k+64) cap]:=by
    rw[List.range_succ,List.map_append];congr 1
    ·refine List.map_congr_left (fun j hj=> ?_)
     have:=List.mem_range.1 hj;rw[if_neg (by omega),if_neg (by omega)]
    ·simp
  rw[e];exact hown6
theorem Lists.congr{N L:Nat}{A:Nat→Option Addr}{n c:Nat→Nat}{X X':Nat→List B.Ins}{w:World}(h:Lists N L A n c X w)(he:∀k,k<4→X k=X' k):Lists N L A n c X' w:=
 ⟨h.tab,fun k hk=>by rw[←he k hk];exact h.own k hk,h.ne⟩
theorem infoN74:(Tryz.prog.info? 74).map (·.size)=some 5:=by kernel_rfl
set_option maxRecDepth 100000 in
set_option maxHeartbeats 12800000 in
theorem apart4_any(N L:Nat)(A:Nat→Option Addr)(n c:Nat→Nat)(X:Nat→List B.Ins)(w:World)(h:Lists N L A n c X w)(hn:∀k,n k≤20000)(hN:N≤w.heap.size)(hL:L<w.heap.size)(hNL:N≤L):
    Calls Tryz.prog 21 #[.slice (some ⟨L,0,none⟩) 4 4] w fun e w'=>e= .returned (.bool true)∧Below N w w':=by
 have H0:=hd' h;have HN:=hd' hn;clear h hn;go_enter Tryz.func21,Tryz.ntmps21;go_wp2_with fail
 go_loopw [3] (fun v wr=>∃k:Nat,k≤4∧v= .int .i64 k∧Lists N L A n c (XA n X k 0) wr∧Below N w wr) (fun v _=>4-(intOf v).toNat)
 case atStart=>exact⟨0,by omega,rfl,by rw[XA_start];exact H0.out,Below.refl _ _⟩
 case round=>
  obtain⟨k,hk,rfl,hls,hb⟩:=hrel;have HLS:=hd' hls;have HB:=hd' hb;have hsz:=hb.size;clear hls hb H0
  by_cases hlt:k<4
  ·go_wp2_with fail
   obtain⟨wo,hwo⟩:∃wo:World,wo=wr:=⟨_,rfl⟩;subst hwo
   go_loopw [4] (fun v wy=>∃i:Nat,i≤n k∧v= .int .i64 i∧Lists N L A n c (XA n X k i) wy∧Below N w wy) (fun v _=>n k-(intOf v).toNat)
   case atStart=>
    exact⟨0,by omega,rfl,HLS.out,HB.out⟩
   case round=>
    obtain⟨i,hi,rfl,hls2,hb2⟩:=hrel;have HL2:=hd' hls2;have HB2:=hd' hb2;have hsz2:=hb2.size
    have hszN:N≤wr.heap.size:=by omega
    have cT:=hls2.cell hlt;have hnk:=HN.out k
    have k0:(0:Int)≤(k:Int):=by omega
    have k1:(k:Int)<4:=by omega
    clear hls2 hb2 HLS HB
    by_cases hlt2:i<n k
    ·obtain⟨g,hA,hgN,hgw⟩:=HL2.out.blk hlt hlt2
     have HCT:=hd' cT;have HA:=hd' hA;rw[hA]at cT;generalize hnke:n k=nk at*;have HNK:=hd' hnke;clear hnke
     have i0:(0:Int)≤(i:Int):=by omega
     have i1:(i:Int)<(nk:Int):=by omega
     have hLw:L<wr.heap.size:=lt_of_block HL2.out.tab
     have hLg:L≠g:=by
      have ho:=HL2.out.own k hlt;rw[HA.out]at ho;have:=own_ne ho.own HL2.out.tab (by decide);intro e;apply this;rw[e];rfl
     have HCG:Hid (wr.cell? ⟨L,k,none⟩=some (.slice (some ⟨g,0,none⟩) nk (c k))):=cT;go_wp2_with fail;clear cT;refine wp_region_held_drew (S:=fun w'=>w'.cell? ⟨L,k,none⟩=some (.slice (some ⟨g,0,none⟩) nk (c k))) (by kernel_rfl) HCG.out (fun hS1=> ?_);refine takeS (i:=0) (d:=27) (v:=.slice (some ⟨L,0,none⟩) 4 4) rfl rfl rfl (by kernel_rfl) (by kernel_rfl) (by kernel_rfl) (fun _ _ _ h=>h) (fun w' _=>by go_simp) hS1 ?_;simp only[Act.put,sA',sZ',sS'];refine takeS (i:=1) (d:=28) (v:=.int .i64 (k:Int)) rfl rfl rfl (by kernel_rfl) (by kernel_rfl) (by kernel_rfl) (fun _ _ _ h=>h) (fun w' _=>by go_simp) hS1 ?_;simp only[Act.put,sA',sZ',sS'];refine takeS (i:=2) (d:=29) (v:=.pointer (some ⟨L,k,none⟩)) rfl rfl rfl (by kernel_rfl) (by kernel_rfl) (by kernel_rfl) (fun _ _ _ h=>h) (fun w' _=>by go_simp) hS1 ?_;simp only[Act.put,sA',sZ',sS']
     refine takeS (i:=3) (d:=30) (v:=.slice (some ⟨g,0,none⟩) nk (c k)) rfl rfl rfl (by kernel_rfl) (by kernel_rfl) (by kernel_rfl) (fun _ _ _ h=>h) (fun w' hw=>by(have hc:=hw;go_simp)) hS1 ?_;simp only[Act.put,sA',sZ',sS'];refine takeS (i:=4) (d:=31) (v:=.int .i64 (i:Int)) rfl rfl rfl (by kernel_rfl) (by kernel_rfl) (by kernel_rfl) (fun _ _ _ h=>h) (fun w' _=>by go_simp) hS1 ?_;simp only[Act.put,sA',sZ',sS'];refine takeS (i:=5) (d:=32) (v:=.int .i64 (k:Int)) rfl rfl rfl (by kernel_rfl) (by kernel_rfl) (by kernel_rfl) (fun _ _ _ h=>h) (fun w' _=>by go_simp) hS1 ?_;simp only[Act.put,sA',sZ',sS'];refine takeS (i:=6) (d:=33) (v:=.int .i64 (i:Int)) rfl rfl rfl (by kernel_rfl) (by kernel_rfl) (by kernel_rfl) (fun _ _ _ h=>h) (fun w' _=>by go_simp) hS1 ?_;simp only[Act.put,sA',sZ',sS'];refine wpAnyH_ready (rs:=[7]) (by kernel_rfl) (by simp) ?_
     refine AllReadyH.cons rfl (fun K hK=> ?_) AllReadyH.nil;go_simp;refine(markK_any k i (by omega) (by omega) _).mono ?_;rintro e w5 ⟨rfl,hb5⟩;have HL5:Hid (Lists N L A n c (XA n X k i) w5):=hd' ((HL2.out.below (Below.refl _ _).drew).below hb5);have HB5:Hid (Below N w w5):=hd' (HB2.out.trans (((Below.refl wr.heap.size wr).drew.trans hb5).mono hszN));have hsz5:wr.heap.size≤w5.heap.size:=hb5.size;refine hK.out _ _ ((hb5.cell (p:=⟨L,k,none⟩) hLw).trans HCG.out) (fun hS2=> ?_);clear hK K hb5;refine takeS (i:=8) (d:=35) (v:=.pointer (some ⟨g,i*5,none⟩)) rfl rfl rfl (by kernel_rfl) (by kernel_rfl) (by kernel_rfl) (fun _ _ _ h=>h) (fun w' _=>by go_simp) hS2 ?_;simp only[Act.put,sA',sZ',sS'];refine wpAnyH_ready (rs:=[9]) (by kernel_rfl) (by simp) ?_;refine AllReadyH.cons rfl (fun K hK=> ?_) AllReadyH.nil;rw[if_pos (by rfl)]
     have hth:w5.there g (i*5) 5:=by
      have ho:=HL5.out.own k hlt;rw[HA.out,HNK.out]at ho;exact there_of_own ho hlt2
     refine wp_store_mid 74 _ _ (by rfl) g (i*5) #[.int .i64 (-7-(k:Int)),.int .i64 0,.int .i64 0,.int .i64 0,.int .u64 (i:Int)] (by rfl) (by rfl) hth infoN74 (by simp[Value.oneCell']) ?_;have HPUT:=hd' (HL5.out.put hlt HA.out i (markK k i) (by rw[HNK.out];exact hlt2));have hgr:=grownBy_setCells g [.int .i64 (-7-(k:Int)),.int .i64 0,.int .i64 0,.int .i64 0,.int .u64 (i:Int)] (i*5) w5;have HB6:Hid (Below N w (w5.setCells g (i*5) [.int .i64 (-7-(k:Int)),.int .i64 0,.int .i64 0,.int .i64 0,.int .u64 (i:Int)])):=hd' (HB5.out.grown hgr (by have:=HB5.out.size;omega) (fun q hq=>by have:=Option.some.inj hq;omega));refine hK.out _ _ ((hgr.cell_far ⟨L,k,none⟩ (by show L<w5.heap.size;omega) (by simpa using hLg)).trans hS2) (fun _=> ?_);clear hK K hgr hth hS1 hS2;refine wpAnyH_done (by kernel_rfl) ?_ _
     obtain⟨w6,hw6⟩:∃w6,w5.setCells g (i*5) [.int .i64 (-7-(k:Int)),.int .i64 0,.int .i64 0,.int .i64 0,.int .u64 (i:Int)]=w6:=⟨_,rfl⟩;have hlX:=XA_len (HL5.out.own k hlt).len (by rw[HNK.out];exact hlt2)
     have HP6:Hid (Lists N L A n c (XA n X k (i+1)) w6):=by
      rw[←hw6,←XA_next hlX (by rw[HNK.out];exact hlt2)];exact HPUT
     have HB7:Hid (Below N w w6):=by rw[←hw6];exact HB6
     clear hlX HPUT HB6 HL5 HB5
     first | rw[hw6] | skip
     clear hw6;go_wp2_with fail;go_roundw
     case rel=>
      exact⟨i+1,by omega,by go_num,HP6.out,HB7.out⟩
     case measure=>simp[intOf];omega
    ·obtain rfl:i=n k:=by omega
     have HN1:Hid (Lists N L A n c (XA n X (k+1) 0) wr):=by
      rw[←XA_done (HL2.out.own k hlt).len];exact HL2
     obtain⟨nk,hnke⟩:∃nk,n k=nk:=⟨_,rfl⟩;rw[hnke]at cT⊢;clear hnke;go_wp2_with fail;go_roundw
     case rel=>exact⟨k+1,by omega,by go_num,HN1.out,HB2.out⟩
     case measure=>simp[intOf];omega
  ·obtain rfl:k=4:=by omega
   have hLs:L<wr.heap.size:=by omega
   have HG0:Hid (Grw N L wr.heap.size A n c (fun _=>none) (fun _=>0) 0 (.slice none 0 0) wr):=by
    refine hd' ⟨HLS.out.congr (fun k hk=> ?_),fun j hj=>by omega,fun j m g hj=>by omega,World.ownsRow_nil _ _ _ _⟩;unfold XA;rw[if_pos hk]
   rw[show((4:Nat):Int)=(4:Int)from rfl];obtain⟨Z,hZe⟩:∃Z,wr.heap.size=Z:=⟨_,rfl⟩;rw[hZe]at HG0 hLs
   have hZw:N≤Z:=by omega
   have hZr:Z≤wr.heap.size:=by omega
   clear hlt hk HLS hZe;go_wp2_with fail;obtain⟨wo,hwo⟩:∃wo:World,wo=wr:=⟨_,rfl⟩;subst hwo
   go_loopw [5,6] (fun v5 v6 wy=>∃(k:Nat) (ao5:Option Addr) (c5:Nat) (G:Nat→Option Addr) (C:Nat→Nat),k≤4∧v6= .int .i64 (k:Int)∧v5= .slice ao5 k c5∧Grw N L Z A n c G C k (.slice ao5 k c5) wy∧Below N w wy∧Z≤wy.heap.size) (fun _ v6 _=>4-(intOf v6).toNat)
   case atStart=>exact⟨0,none,0,_,_,by omega,rfl,rfl,HG0.out,HB.out,hZr⟩
   case round=>
    obtain⟨k,ao5,c5,G,C,hk,rfl,rfl,hgw,hb,hZy⟩:=hrel;have HGW:=hd' hgw;have HB2:=hd' hb;clear hgw hb HG0
    by_cases hlt:k<4
    ·have cT:=HGW.out.ls.cell hlt
     have k0:(0:Int)≤(k:Int):=by omega
     have k1:(k:Int)<4:=by omega
     have HRS:=hd' (Rg.start HGW.out.ls hlt);have hnk:=HN.out k;go_wp2_with fail;clear cT;obtain⟨wo2,hwo2⟩:∃wo2:World,wo2=wr:=⟨_,rfl⟩;subst hwo2
     go_loopw [7,8] (fun v7 v8 wy=>∃(i:Nat) (ao:Option Addr) (cap:Nat),i≤64∧v8= .int .i64 (i:Int)∧v7= .slice ao (n k+i) cap∧Rg N L A n c k i ao cap wo2 wy) (fun _ v8 _=>64-(intOf v8).toNat)
     case atStart=>exact⟨0,A k,c k,by omega,rfl,rfl,HRS.out⟩
     case round=>
      obtain⟨i,ao,cap,hi,rfl,rfl,hrg⟩:=hrel;have HRG:=hd' hrg;have hsz:=hrg.bel.size;have cT:=hrg.ls.cell hlt;clear hrg HRS
      by_cases hlt2:i<64
      ·have HMK:=markK_any k (n k+i) (by omega) (by omega)
       unfold MarkOut at HMK
       have HNX:=fun(ao':Option Addr) (cap':Nat) (w5 w6:World)=> @Rg.next N L A n c k i ao ao' cap cap' wo2 wr w5 w6 HRG.out hlt (fun j g hj hg=>(HGW.out.ls.lt hj hg).2)
       have HOWN:=HRG.out.own;obtain⟨nk,hnke⟩:∃nk,n k=nk:=⟨_,rfl⟩;rw[hnke]at HMK HNX HOWN cT hnk⊢;rw[show((nk+i:Nat):Int)=(nk:Int)+(i:Int) by omega]at HMK;have HMKH:=hd' HMK;have HNXH:=hd' HNX;have HOWNH:=hd' HOWN;clear HMK HNX HOWN hnke;have s1:IntKind.i64.wrap ((nk:Int)+(i:Int))=(nk:Int)+(i:Int):=IntWalk.i64_in _ (by omega);go_wp2_with fail;refine(HMKH.out _).mono ?_;rintro e w5 ⟨rfl,hb5⟩;have HB5:=hd' hb5;have HO5:=hd' (HOWNH.out.kept hb5)
       have hs5:N≤w5.heap.size:=by have:=hb5.size;omega
       clear hb5 cT HMKH HOWNH;go_wp2_with (at_builtin;refine app_two rfl _ _ rfl N rfl HO5.out rfl (by omega) hs5 ?_;intro ao6 c6 w6 hown6 hk6 hat6 hb6);have HR6:=hd' (HNXH.out ao6 c6 w5 w6 HB5.out (by rw[markL_succ];exact hown6) hk6 hat6 hb6 (by omega));clear hown6 hk6 hat6 hb6 HNXH HB5 HO5 s1;go_wp2_with fail;go_roundw
       case rel=>exact⟨i+1,ao6,c6,by omega,by go_num,rfl,HR6.out⟩
       case measure=>simp[intOf];omega
      ·obtain rfl:i=64:=by omega
       have HGS:Hid (wr.ownsRow Z 30 1 (.slice ao5 k c5) k ((List.range k).map fun j=>.slice (G j) (n j+64) (C j))):=
        hd' (own_keepV HGW.out.gs (fun b hb=>HRG.out.keep b (HGW.out.gs.lt b hb).2 (fun e=>own_own_ne HGW.out.gs (HGW.out.ls.own k hlt).own (by decide) (by rw[e];rfl) hb)))
       have hZs:Z≤wr.heap.size:=by omega
       have HNX:=fun(ao6:Option Addr) (c6:Nat) (w6:World) (o:Obj)=> @Grw.next N L Z A G n c C k c5 c6 cap ao5 ao6 ao wo2 wr w6 o HGW.out (by omega) hlt HRG.out
       have HNXH:=hd' HNX;clear HNX cT
       go_upto_region 11 with(at_builtin;refine app_gen Tryz.underlying58 infoI30 rfl (by decide) rfl _ _ rfl Z rfl HGS.out rfl rfl (by simp[Value.oneCell']) (by omega) (by omega) hZs ?_;intro ao6 c6 w6 hown6 hg6 hb6 hs6)
       have HG6:=hd' (HNXH.out ao6 c6 w6 _ hown6 hg6);have HB6:Hid (Below N w w6):=hd' ((HB2.out.trans (HRG.out.bel.mono (Nat.le_refl _))).trans (hb6.mono hZw))
       have hZ6:Z≤w6.heap.size:=by omega
       clear hown6 hg6 hb6 HNXH HGS HRG;go_wp2_with fail;go_roundw
       case rel=>exact⟨k+1,ao6,c6,_,_,by omega,by go_num,rfl,HG6.out,HB6.out,hZ6⟩
       case measure=>simp[intOf];omega
    ·obtain rfl:k=4:=by omega
     obtain⟨gg,rfl⟩:∃gg,ao5=some ⟨gg,0,none⟩:=by
      rcases HGW.out.gs.2 with⟨_,h0⟩ | ⟨g,cap',cur,e,_⟩
      ·omega
      ·injection e with e _ _;exact⟨g,e⟩
     have hgs:∀j,j<4→wr.cell? ⟨gg,j,none⟩=some (.slice (G j) (n j+64) (C j)):=by
      intro j hj;rw[World.ownsRow.cellAt HGW.out.gs j (by omega)]
      have:j=0∨j=1∨j=2∨j=3:=by omega
      rcases this with rfl | rfl | rfl | rfl<;>rfl
     have hgl:=(HGW.out.gs.lt gg rfl).2;have HGC:=hd' hgs;have hLw:L<wr.heap.size:=lt_of_block HGW.out.ls.tab;rw[show((4:Nat):Int)=(4:Int)from rfl];clear hgs hk hlt;go_wp2_with fail;obtain⟨wz,hwz⟩:∃wz:World,wz=wr:=⟨_,rfl⟩;subst hwz
     go_loopw [9] (fun v wy=>∃k:Nat,k≤4∧v= .int .i64 (k:Int)∧Below wz.heap.size wz wy) (fun v _=>4-(intOf v).toNat)
     case atStart=>exact⟨0,by omega,rfl,Below.refl _ _⟩
     case round=>
      obtain⟨k,hk,rfl,hb⟩:=hrel;have HBZ:=hd' hb;have hszz:=hb.size;clear hb
      by_cases hlt:k<4
      ·have k0:(0:Int)≤(k:Int):=by omega
       have k1:(k:Int)<4:=by omega
       go_wp2_with fail;obtain⟨wo2,hwo2⟩:∃wo2:World,wo2=wr:=⟨_,rfl⟩;subst hwo2
       go_loopw [10] (fun v wy=>∃i:Nat,i≤n k+64∧v= .int .i64 (i:Int)∧Below wz.heap.size wz wy) (fun v _=>(n k+64)-(intOf v).toNat)
       case atStart=>exact⟨0,by omega,rfl,HBZ.out⟩
       case round=>
        obtain⟨i,hi,rfl,hb⟩:=hrel;have HBY:=hd' hb;have hszy:=hb.size;have cG:=(hb.cell (p:=⟨gg,k,none⟩) hgl).trans (HGC.out k hlt);have cT:=(hb.cell (p:=⟨L,k,none⟩) hLw).trans (HGW.out.ls.cell hlt);have hnk:=HN.out k;clear hb HBZ
        by_cases hlt2:i<n k+64
        ·have HMK:=markK_any k i (by omega) (by omega)
         unfold MarkOut at HMK;have HMKH:=hd' HMK
         have i0:(0:Int)≤(i:Int):=by omega
         have hPG:=(HGW.out.new k hlt).progAt;obtain⟨bg,og,heg,hbg,hatg⟩:=hPG.at_ i (markK k i) (markL_get k _ i hlt2)
         by_cases hlt3:i<n k
         ·have hPA:=(HGW.out.ls.own k hlt).progAt
          obtain⟨ba,oa,hea,hba,hata⟩:=hPA.at_ i (markK k i) (markL_get k _ i hlt3);have HATG:=hd' hatg;have HATA:=hd' hata
          have g1:decide (i<n k)=true:=by simpa using hlt3
          have g2:(i:Int)<(n k:Int):=by omega
          have g3:(i:Int)<(n k:Int)+64:=by omega
          rw[heg]at cG;rw[hea]at cT;generalize n k=nk at*;clear HMK hPG hPA hatg hata;go_wp2_with fail;refine(HMKH.out _).mono ?_;rintro e w5 ⟨rfl,hb5⟩;have HBY5:=hd' (HBY.out.trans (hb5.mono (by omega)));have hs5:=hb5.size;obtain⟨a0,a1,a2,a3,a4⟩:=(HATG.out.below HBY.out hbg).below hb5 (by omega);obtain⟨d0,d1,d2,d3,d4⟩:=(HATA.out.below HBY.out hba).below hb5 (by omega);have cG5:=(hb5.cell (p:=⟨gg,k,none⟩) (by show gg<wr.heap.size;omega)).trans cG;have cT5:=(hb5.cell (p:=⟨L,k,none⟩) (by show L<wr.heap.size;omega)).trans cT
          have hbg5:bg<w5.heap.size:=by omega
          have hba5:ba<w5.heap.size:=by omega
          have hgl5:gg<w5.heap.size:=by omega
          have hLl5:L<w5.heap.size:=by omega
          simp only[markK]at a0 a1 a2 a3 a4 d0 d1 d2 d3 d4;clear hb5 cG cT HATG HATA HMKH;go_wp2_with fail
          go_quiet (fail)
          go_wp2_with fail;go_roundw
          case rel=>exact⟨i+1,by omega,by go_num,belowN (HBY5.out.alloc (by omega) _) _⟩
          case measure=>simp[intOf];omega
         ·have HATG:=hd' hatg
          have g1:decide (i<n k)=false:=by simpa using hlt3
          have g2:¬(i:Int)<(n k:Int):=by omega
          have g3:(i:Int)<(n k:Int)+64:=by omega
          rw[heg]at cG;generalize n k=nk at*;clear HMK hPG hatg;go_wp2_with fail;refine(HMKH.out _).mono ?_;rintro e w5 ⟨rfl,hb5⟩;have HBY5:=hd' (HBY.out.trans (hb5.mono (by omega)));have hs5:=hb5.size;obtain⟨a0,a1,a2,a3,a4⟩:=(HATG.out.below HBY.out hbg).below hb5 (by omega);have cG5:=(hb5.cell (p:=⟨gg,k,none⟩) (by show gg<wr.heap.size;omega)).trans cG;have cT5:=(hb5.cell (p:=⟨L,k,none⟩) (by show L<wr.heap.size;omega)).trans cT
          have hbg5:bg<w5.heap.size:=by omega
          have hgl5:gg<w5.heap.size:=by omega
          have hLl5:L<w5.heap.size:=by omega
          simp only[markK]at a0 a1 a2 a3 a4;clear hb5 cG cT HATG HMKH;go_wp2_with fail
          go_quiet (fail)
          go_wp2_with fail;go_roundw
          case rel=>exact⟨i+1,by omega,by go_num,belowN (HBY5.out.alloc (by omega) _) _⟩
          case measure=>simp[intOf];omega
        ·obtain rfl:i=n k+64:=by omega
         generalize n k=nk at*;go_wp2_with fail;go_roundw
         case rel=>exact⟨k+1,by omega,by go_num,HBY.out⟩
         case measure=>simp[intOf];omega
      ·obtain rfl:k=4:=by omega
       go_wp2_with fail;go_ret;exact⟨rfl,HB2.out.trans (HBZ.out.mono (by omega))⟩
end Code
end Go.Proofs.YtljhklblbafjkaaGreatDoor
