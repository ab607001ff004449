/- Package check: are two sets the same? Sets by their branches. -/
import Derived.Test.YtljhklblbafjkaaGreatDoorLwU
import Derived.DeepKeys
import Derived.Maps.OwnSet
import Derived.Test.YtljhklblbafjkaaGreatDoorLwQ
open Go.Lib renaming hid→hd'
open Nat renaming le_refl→lR'
open List renaming setIfInBounds_toArray→sA',set_cons_zero→sZ',set_cons_succ→sS'
namespace Go.Proofs.YtljhklblbafjkaaGreatDoor
open Go.RowKit Go.Maps
namespace Code
theorem lits_set(f:Nat→Bool):Tryz.prog.keyLits 3 136 (Value.agg (setC f)).cells.toList=some ((List.range 64).map fun j=>Lit.bool (f j)):=by
 kernel_rfl
theorem formed_set(f:Nat→Bool):(Value.agg (setC f)).formed Tryz.prog 136=true:=by
 have h:Tryz.prog.cellsOf 136=64:=by kernel_rfl
 simp[Value.formed,Tryz.underlying136,setC_size,h]
theorem keyType_set:Tryz.prog.keyTypeAt 3 136=true:=by kernel_rfl
theorem set_eq(f g:Nat→Bool)(w:World):∃r:Bool,(Op.equalIn 10000 136 (.agg (setC f)) (.agg (setC g))).run Tryz.prog w= .ok r w∧(r=true↔∀j,j<64→f j=g j):=by
 obtain⟨r,h1,h2⟩:=run_equalIn_deep (P:=Tryz.prog) 9997 3 136 keyType_set w 3 3 _ _ _ _ (formed_set f) (formed_set g) (lits_set f) (lits_set g);refine⟨r,h1,h2.trans ?_⟩;constructor
 ·intro h j hj
  have:=congrArg (fun l=>l[j]?) h;simpa[hj]using this
 ·intro h
  refine List.map_congr_left fun j hj=> ?_
  rw[h j (List.mem_range.1 hj)]
def setD(f:Nat→Bool):DataW Unit:=.agg ((List.range 64).map fun j=>.lit (.bool (f j)))
theorem setD_inj{f g:Nat→Bool}(h:setD f=setD g):setC f=setC g:=by
 refine setC_congr fun j hj=> ?_
 unfold setD at h;injection h with h;have:=congrArg (fun l=>l[j]?) h;simpa[hj]using this
theorem setC_inj{f g:Nat→Bool}(h:setC f=setC g):setD f=setD g:=by
 unfold setD;congr 1
 refine List.map_congr_left fun j hj=> ?_
 have hj:=List.mem_range.1 hj;have h1:=setC_get f j hj;rw[h,setC_get g j hj]at h1;injection h1 with h1;injection h1 with h1;rw[h1]
open Classical in
noncomputable def setElem (v:Value):Option (DataW Unit×List MemPlace):=if h:∃f,v= .agg (setC f)then some (setD h.choose,[])else none
theorem setElem_mk(f:Nat→Bool):setElem (.agg (setC f))=some (setD f,[]):=by
 unfold setElem;have h:∃g,Value.agg (setC f)= .agg (setC g):=⟨f,rfl⟩;rw[dif_pos h];have e:=h.choose_spec;injection e with e;rw[setC_inj e.symm]
theorem setElem_inv{v:Value}{z:DataW Unit×List MemPlace}(h:setElem v=some z):∃f,v= .agg (setC f)∧z=(setD f,[]):=by
 unfold setElem at h
 by_cases e:∃f,v= .agg (setC f)
 ·rw[dif_pos e]at h
  exact⟨e.choose,e.choose_spec,(Option.some.inj h).symm⟩
 ·rw[dif_neg e]at h
  cases h
theorem keyU64:Keyed Tryz.prog 49:=int_keyed Tryz.underlying49
def BmAt(w:World)(b n:Nat)(h:Int→Bool)(F:Int→Nat→Bool):Prop:=
 ∃D,w.ownsMap Tryz.prog 49 setElem b n D∧∀(v:Int) (z:DataW Unit),D.atKey (.int .u64 v) z=if h v=true then setD (F v)else z
theorem BmAt.lt{w:World}{b n:Nat}{h:Int→Bool}{F:Int→Nat→Bool}(H:BmAt w b n h F):b<w.heap.size:=by
 obtain⟨D,H,_⟩:=H;exact H.lt
theorem BmAt.below{w w':World}{b n N:Nat}{h:Int→Bool}{F:Int→Nat→Bool}(H:BmAt w b n h F)(hb:Below N w w')(hN:b<N):BmAt w' b n h F:=by
 obtain⟨D,⟨es,clock,h1,h2⟩,hd⟩:=H;exact⟨D,⟨es,clock,(hb.block b hN).trans h1,h2⟩,hd⟩
theorem BmAt.other{w w':World}{b n:Nat}{h:Int→Bool}{F:Int→Nat→Bool}(H:BmAt w b n h F)(he:w'.heap[b]? =w.heap[b]?):BmAt w' b n h F:=by
 obtain⟨D,⟨es,clock,h1,h2⟩,hd⟩:=H;exact⟨D,⟨es,clock,he.trans h1,h2⟩,hd⟩
theorem BmAt.new(w:World)(F:Int→Nat→Bool):BmAt (w.alloc (.map #[] 0)) w.heap.size 0 (fun _=>false) F:=
 ⟨.map [],World.ownsMap_made w _ _ _,fun _ _=>rfl⟩
theorem wfU{r:Int}(h:B.InU64 r):(Lit.int .u64 r).wf=true:=by
 show(decide ((0:Int)≤r)&&decide (r≤(18446744073709551615:Int)))=true
 simp;exact h
theorem BmAt.look{w:World}{b n:Nat}{h:Int→Bool}{F:Int→Nat→Bool}(H:BmAt w b n h F)(hF:∀v j,h v=false→F v j=false)(v:Int)(hv:B.InU64 v):
    (Instr.lookup 142 (.map (some b)) (.int .u64 v) false).run Tryz.prog w= .ok (.agg (setC (F v))) w:=by
 obtain⟨D,ho,hd⟩:=H;obtain⟨x,ps,hrun,hx⟩:=ho.lookup (e:=136) keyU64 Tryz.underlying142 (z:=.agg (setC fun _=>false)) (by rw[←setC_no];kernel_rfl) (setElem_mk _) (keyOf_int_mk Tryz.underlying49 (wfU hv));obtain⟨f,rfl,hf⟩:=setElem_inv hx;rw[hrun];have h1:=congrArg Prod.fst hf;simp only at h1;rw[hd v]at h1
 cases e:h v with
 | true=>rw[e,if_pos rfl]at h1;rw[setD_inj h1]
 | false=>
  rw[e,if_neg (by simp)]at h1;rw[←setD_inj h1,setC_congr (fun j _=>hF v j e)]
theorem BmAt.put{w:World}{b n:Nat}{h:Int→Bool}{F:Int→Nat→Bool}(H:BmAt w b n h F)(hn:n<maxLen)(v:Int)(hv:B.InU64 v)(g:Nat→Bool):
    ∃w',(Instr.mapUpdate 142 (.map (some b)) (.int .u64 v) (.agg (setC g))).run Tryz.prog w= .ok () w'∧BmAt w' b (n+1) (fun x=>decide (x=v)||h x) (fun x=>if x=v then g else F x)∧w.grownBy w' (some b):=by
 obtain⟨D,ho,hd⟩:=H;obtain⟨w',hrun,ho',hg⟩:=ho.update (e:=136) keyU64 Tryz.underlying142 hn (key:=.int .u64 v) (val:=.agg (setC g)) (keyOf_int_mk Tryz.underlying49 (wfU hv)) (setElem_mk g);refine⟨w',hrun,⟨_,ho',fun x z=> ?_⟩,hg⟩
 by_cases e:x=v
 ·subst e
  rw[Maps.atKey_put_same ho.isMap (show WideAt.IsKeyLit (.int .u64 x)from trivial) _ z];simp
 ·rw[Maps.atKey_put_other (by simp[e]),hd x z]
  simp[e]
end Code
end Go.Proofs.YtljhklblbafjkaaGreatDoor
namespace Go.Proofs.YtljhklblbafjkaaGreatDoor
open Go.RowKit
namespace Code
def alwF(L:List B.Sig)(j:Nat):Bool:=L.any fun t=> !decide (t.role=2)&&bitF t j
def anyF(L:List B.Sig)(j:Nat):Bool:=L.any fun t=>decide (t.role=2)&&bitF t j
def hasB(L:List B.Sig)(v:Int):Bool:=L.any fun t=>decide (t.role=2)&&decide (t.branch=v)
def brF(L:List B.Sig)(v:Int)(j:Nat):Bool:=L.any fun t=>decide (t.role=2)&&decide (t.branch=v)&&bitF t j
def withF(L:List B.Sig)(s:B.Sig)(j:Nat):Bool:=alwF L j||(if s.role=2 then brF L s.branch j else anyF L j)
theorem brF_no(L:List B.Sig)(v:Int)(j:Nat)(h:hasB L v=false):brF L v j=false:=by
 unfold hasB brF at*;rw[List.any_eq_false]at*;intro t ht;have:=h t ht;simp only[Bool.and_eq_true,decide_eq_true_eq]at this⊢
 exact fun h2=>this h2.1
theorem meet_of(L:List B.Sig)(s:B.Sig)(hb:∀b∈s.bits,b≤63):L.any (fun t=>B.meets t s)=true↔∃j,j<64∧(bitF s j&&withF L s j)=true:=by
 rw[List.any_eq_true];constructor
 ·rintro⟨t,ht,hm⟩
  unfold B.meets at hm;rw[Bool.and_eq_true,List.any_eq_true]at hm;obtain⟨hc,j,hj,hjs⟩:=hm
  have hjs:j∈s.bits:=by simpa using hjs
  have h1:bitF s j=true:=by unfold bitF;simpa using hjs
  have h2:bitF t j=true:=by unfold bitF;simpa using hj
  refine⟨j,by have:=hb j hjs;omega, ?_⟩;rw[h1,Bool.true_and];unfold withF
  by_cases r:t.role=2
  ·by_cases r2:s.role=2
   ·rw[if_pos r2]
    have hbr:t.branch=s.branch:=by simpa[r,r2]using hc
    have:brF L s.branch j=true:=List.any_eq_true.2 ⟨t,ht,by simp[r,hbr,h2]⟩;rw[this,Bool.or_true]
   ·rw[if_neg r2]
    have:anyF L j=true:=List.any_eq_true.2 ⟨t,ht,by simp[r,h2]⟩;rw[this,Bool.or_true]
  ·have:alwF L j=true:=List.any_eq_true.2 ⟨t,ht,by simp[r,h2]⟩
   rw[this,Bool.true_or]
 ·rintro⟨j,_,h⟩
  rw[Bool.and_eq_true]at h;obtain⟨h1,h2⟩:=h;unfold withF at h2;rw[Bool.or_eq_true]at h2
  have hjs:j∈s.bits:=by unfold bitF at h1;simpa using h1
  have key:∀t∈L,bitF t j=true→(!decide (t.role=2)|| !decide (s.role=2)||decide (t.branch=s.branch))=true→∃x,x∈L∧B.meets x s=true:=fun t ht hj hc=>by
   refine⟨t,ht, ?_⟩;unfold B.meets;rw[hc,Bool.true_and,List.any_eq_true];exact⟨j,by unfold bitF at hj;simpa using hj,by simpa using hjs⟩
  rcases h2 with h2 | h2
  ·obtain⟨t,ht,hh⟩:=List.any_eq_true.1 h2
   rw[Bool.and_eq_true]at hh;exact key t ht hh.2 (by rw[hh.1];rfl)
  ·by_cases r2:s.role=2
   ·rw[if_pos r2]at h2
    obtain⟨t,ht,hh⟩:=List.any_eq_true.1 h2;rw[Bool.and_eq_true,Bool.and_eq_true]at hh;exact key t ht hh.2 (by rw[hh.1.2,Bool.or_true])
   ·rw[if_neg r2]at h2
    obtain⟨t,ht,hh⟩:=List.any_eq_true.1 h2;rw[Bool.and_eq_true]at hh;exact key t ht hh.2 (by simp[r2])
theorem meetNo_of{m:B.Msg}{k:Nat}{s:B.Sig}(hs:m.sigs[k]? =some s):m.meetNo k=if(m.sigs.take k).any (fun t=>B.meets t s)=true then 17 else 0:=by
 unfold B.Msg.meetNo;rw[hs]
structure ApAt(m:B.Msg)(sv:Value)(A N M k:Nat)(w wr:World):Prop where
 box:RC wr w.heap.size 27 8 (msgC m sv)
 alw:SetAt wr A (alwF (m.sigs.take k))
 any:SetAt wr N (anyF (m.sigs.take k))
 map:BmAt wr M k (hasB (m.sigs.take k)) (brF (m.sigs.take k))
 bel:Below w.heap.size w wr
 lay:w.heap.size<A∧A<N∧N<M
 no:∀i,i<k→m.meetNo i=0
structure ApIn(m:B.Msg)(sv:Value)(A N M k:Nat)(s:B.Sig)(tv:Value)(X S T:Nat)(G:Nat→Bool)(w wx:World):Prop where
 box:RC wx w.heap.size 27 8 (msgC m sv)
 alw:SetAt wx A (alwF (m.sigs.take k))
 any:SetAt wx N (anyF (m.sigs.take k))
 map:BmAt wx M k (hasB (m.sigs.take k)) (brF (m.sigs.take k))
 sig:RC wx X 71 19 (sigC s tv)
 set:SetAt wx S (bitF s)
 wth:SetAt wx T G
 bel:Below w.heap.size w wx
 lay:w.heap.size<A∧A<N∧N<M∧M<X∧X<S∧S<T
theorem ApIn.lt{m:B.Msg}{sv:Value}{A N M k:Nat}{s:B.Sig}{tv:Value}{X S T:Nat}{G:Nat→Bool}{w wx:World}(h:ApIn m sv A N M k s tv X S T G w wx):T<wx.heap.size:=CellsAt.blk h.wth
theorem ApIn.below{m:B.Msg}{sv:Value}{A N M k:Nat}{s:B.Sig}{tv:Value}{X S T:Nat}{G:Nat→Bool}{w wx wy:World}(h:ApIn m sv A N M k s tv X S T G w wx)(hb:Below wx.heap.size wx wy):ApIn m sv A N M k s tv X S T G w wy:=by
 have ht:=h.lt;have hl:=h.lay;exact⟨h.box.below hb (by omega),CellsAt.below h.alw hb (by omega),CellsAt.below h.any hb (by omega),h.map.below hb (by omega),h.sig.below hb (by omega),CellsAt.below h.set hb (by omega),CellsAt.below h.wth hb ht,h.bel.trans (hb.mono h.bel.size),hl⟩
theorem ApIn.put{m:B.Msg}{sv:Value}{A N M k:Nat}{s:B.Sig}{tv:Value}{X S T:Nat}{G:Nat→Bool}{w wx:World}(h:ApIn m sv A N M k s tv X S T G w wx)(G':Nat→Bool):ApIn m sv A N M k s tv X S T G' w (wx.setCells T 0 (setC G').toList):=by
 have hl:=h.lay;have hg:=grownBy_setCells T (setC G').toList 0 wx
 have hoth:∀b,b<wx.heap.size→b≠T→(wx.setCells T 0 (setC G').toList).heap[b]? =wx.heap[b]? :=fun b hb hne=>hg.block b hb (by simp;omega)
 have ht:=h.lt
 exact⟨RC.of h.box (hoth _ (by omega) (by omega)),CellsAt.of h.alw (hoth _ (by omega) (by omega)),CellsAt.of h.any (hoth _ (by omega) (by omega)),h.map.other (hoth _ (by omega) (by omega)),RC.of h.sig (hoth _ (by omega) (by omega)),CellsAt.of h.set (hoth _ (by omega) (by omega)),SetAt.store h.wth G',
  h.bel.grown hg (by have:=h.bel.size;omega) (fun j hj=>by cases hj;omega),hl⟩
theorem ApIn.next{m:B.Msg}{sv:Value}{A N M k:Nat}{s:B.Sig}{tv:Value}{X S T:Nat}{G:Nat→Bool}{w wx:World}(h:ApIn m sv A N M k s tv X S T G w wx)(hs:m.sigs[k]? =some s)(hr:s.role≠2)(hno:∀i,i<k→m.meetNo i=0)(h0:m.meetNo k=0):
    ApAt m sv A N M (k+1) w (wx.setCells A 0 (setC fun j=>alwF (m.sigs.take k) j||bitF s j).toList):=by
 have hl:=h.lay;have ht:=h.lt;have hg:=grownBy_setCells A (setC fun j=>alwF (m.sigs.take k) j||bitF s j).toList 0 wx
 have hoth:∀b,b<wx.heap.size→b≠A→(wx.setCells A 0 (setC fun j=>alwF (m.sigs.take k) j||bitF s j).toList).heap[b]? =wx.heap[b]? :=fun b hb hne=>hg.block b hb (by simp;omega)
 have htk:m.sigs.take (k+1)=m.sigs.take k++[s]:=by rw[List.take_add_one,hs];rfl
 refine⟨RC.of h.box (hoth _ (by omega) (by omega)), ?_, ?_, ?_,h.bel.grown hg (by have:=h.bel.size;omega) (fun j hj=>by cases hj;omega),⟨hl.1,hl.2.1,hl.2.2.1⟩,fun i hi=> ?_⟩
 ·refine(SetAt.store h.alw _).congr (fun j _=> ?_)
  rw[htk];simp[alwF,hr]
 ·refine(CellsAt.of h.any (hoth _ (by omega) (by omega))).congr (fun j _=> ?_)
  rw[htk];simp[anyF,hr]
 ·obtain⟨D,ho,hd⟩:=h.map.other (hoth M (by omega) (by omega))
  refine⟨D,ho.mono (by omega),fun v z=> ?_⟩;rw[hd v z,htk]
  have e1:hasB (m.sigs.take k++[s]) v=hasB (m.sigs.take k) v:=by simp[hasB,hr]
  have e2:brF (m.sigs.take k++[s]) v=brF (m.sigs.take k) v:=by funext j;simp[brF,hr]
  rw[e1,e2]
 ·by_cases e:i=k
  ·rw[e];exact h0
  ·exact hno i (by omega)
theorem ApIn.nextB{m:B.Msg}{sv:Value}{A N M k:Nat}{s:B.Sig}{tv:Value}{X S T:Nat}{G:Nat→Bool}{w wx wy:World}(h:ApIn m sv A N M k s tv X S T G w wx)(hs:m.sigs[k]? =some s)(hr:s.role=2)(hno:∀i,i<k→m.meetNo i=0)(h0:m.meetNo k=0)
    (hg:wx.grownBy wy (some M)) (hm:BmAt wy M (k+1) (fun x=>decide (x=s.branch)||hasB (m.sigs.take k) x) (fun x=>if x=s.branch then(fun j=>brF (m.sigs.take k) s.branch j||bitF s j)else brF (m.sigs.take k) x)):
    Below w.heap.size w wy∧SetAt wy N (anyF (m.sigs.take k))∧SetAt wy S (bitF s)∧
    ∀wz,Below wy.heap.size wy wz→ApAt m sv A N M (k+1) w (wz.setCells N 0 (setC fun j=>anyF (m.sigs.take k) j||bitF s j).toList):=by
 have hl:=h.lay;have ht:=h.lt
 have hoth:∀b,b<wx.heap.size→b≠M→wy.heap[b]? =wx.heap[b]? :=fun b hb hne=>hg.block b hb (by simp;omega)
 have hby:Below w.heap.size w wy:=h.bel.grown hg (by have:=h.bel.size;omega) (fun j hj=>by cases hj;omega);have hany:=CellsAt.of h.any (hoth _ (by omega) (by omega));have hsz:=hg.size;refine⟨hby,hany,CellsAt.of h.set (hoth _ (by omega) (by omega)),fun wz hz=> ?_⟩;have hzs:=hz.size;have hg2:=grownBy_setCells N (setC fun j=>anyF (m.sigs.take k) j||bitF s j).toList 0 wz
 have hoth2:∀b,b<wx.heap.size→b≠N→(wz.setCells N 0 (setC fun j=>anyF (m.sigs.take k) j||bitF s j).toList).heap[b]? =wy.heap[b]? :=fun b hb hne=>(hg2.block b (by omega) (by simp;omega)).trans (hz.block b (by omega))
 have htk:m.sigs.take (k+1)=m.sigs.take k++[s]:=by rw[List.take_add_one,hs];rfl
 refine⟨RC.of h.box ((hoth2 _ (by omega) (by omega)).trans (hoth _ (by omega) (by omega))), ?_, ?_, ?_,(hby.trans (hz.mono hby.size)).grown hg2 (by have:=hby.size;omega) (fun j hj=>by cases hj;omega),⟨hl.1,hl.2.1,hl.2.2.1⟩,fun i hi=> ?_⟩
 ·refine(CellsAt.of h.alw ((hoth2 _ (by omega) (by omega)).trans (hoth _ (by omega) (by omega)))).congr (fun j _=> ?_)
  rw[htk];simp[alwF,hr]
 ·refine(SetAt.store (CellsAt.below hany hz (by omega)) _).congr (fun j _=> ?_)
  rw[htk];simp[anyF,hr]
 ·obtain⟨D,ho,hd⟩:=hm.other (hoth2 M (by omega) (by omega))
  refine⟨D,ho,fun v z=> ?_⟩;rw[hd v z,htk]
  have e1:hasB (m.sigs.take k++[s]) v=(decide (v=s.branch)||hasB (m.sigs.take k) v):=by
   simp[hasB,hr,Bool.or_comm,eq_comm]
  have e2:brF (m.sigs.take k++[s]) v=if v=s.branch then(fun j=>brF (m.sigs.take k) s.branch j||bitF s j)else brF (m.sigs.take k) v:=by
   by_cases e:v=s.branch
   ·rw[if_pos e];funext j;simp[brF,hr,e]
   ·rw[if_neg e];funext j
    have e':¬s.branch=v:=fun h=>e h.symm
    simp[brF,hr,e']
  rw[e1,e2]
 ·by_cases e:i=k
  ·rw[e];exact h0
  ·exact hno i (by omega)
end Code
end Go.Proofs.YtljhklblbafjkaaGreatDoor
namespace Go.Proofs.YtljhklblbafjkaaGreatDoor
open Go.RowKit
namespace Code
attribute [local go_sem ↓] Go.wp_at_zero Go.wp_at_succ
set_option maxRecDepth 100000 in
set_option maxHeartbeats 25600000 in
theorem apart_any:ApartLaw:=by
 intro m sa n cap w hm hs hn64 hh hsig hbr;have hn:=hs.len;have HS:=hd' hs;have HM:=hd' hm;have HN:=hd' hn;have HH:=hd' hh;have HSIG:=hd' hsig;have HBR:=hd' hbr;have hrow:=RC.alloc (RC.alloc (RC.new (msgC m (.slice sa n cap)) 27 w (n:=8) rfl rfl) (.cells (setC fun _=>false) 136)) (.cells (setC fun _=>false) 136)
 have hA:SetAt (((w.alloc (.cells (msgC m (.slice sa n cap)) 27)).alloc (.cells (setC fun _=>false) 136)).alloc (.cells (setC fun _=>false) 136)) (w.heap.size+1) (fun _=>false):=by
  have:=CellsAt.alloc (SetAt.new (fun _=>false) (w.alloc (.cells (msgC m (.slice sa n cap)) 27))) (.cells (setC fun _=>false) 136);simpa using this
 have hN:SetAt (((w.alloc (.cells (msgC m (.slice sa n cap)) 27)).alloc (.cells (setC fun _=>false) 136)).alloc (.cells (setC fun _=>false) 136)) (w.heap.size+1+1) (fun _=>false):=by
  have:=SetAt.new (fun _=>false) ((w.alloc (.cells (msgC m (.slice sa n cap)) 27)).alloc (.cells (setC fun _=>false) 136));simpa using this
 have hbel:Below w.heap.size w (((w.alloc (.cells (msgC m (.slice sa n cap)) 27)).alloc (.cells (setC fun _=>false) 136)).alloc (.cells (setC fun _=>false) 136)):=(((Below.refl _ _).alloc (lR' _) _).alloc (by simp) _).alloc (by simp;omega) _
 have hz1:(((w.alloc (.cells (msgC m (.slice sa n cap)) 27)).alloc (.cells (setC fun _=>false) 136)).alloc (.cells (setC fun _=>false) 136)).heap.size=w.heap.size+3:=by simp
 obtain⟨w1,hw1⟩:∃w1,((w.alloc (.cells (msgC m (.slice sa n cap)) 27)).alloc (.cells (setC fun _=>false) 136)).alloc (.cells (setC fun _=>false) 136)=w1:=⟨_,rfl⟩;rw[hw1]at hrow hA hN hbel hz1;have hb12:Below w1.heap.size w1 (w1.alloc (.map #[] 0)):=(Below.refl _ _).alloc (lR' _) _;have hmp:BmAt (w1.alloc (.map #[] 0)) w1.heap.size 0 (fun _=>false) (fun _ _=>false):=BmAt.new w1 _
 have hmk:(Instr.makeMap 142 none).run Tryz.prog w1= .ok (.map (some w1.heap.size)) (w1.alloc (.map #[] 0)):=by simp[Instr.makeMap]
 obtain⟨w2,hw2⟩:∃w2,w1.alloc (.map #[] 0)=w2:=⟨_,rfl⟩;obtain⟨M,hM⟩:∃M,w1.heap.size=M:=⟨_,rfl⟩;rw[hw2]at hb12 hmp hmk;rw[hM]at hmp hmk;have hrow2:=hrow.below hb12 (by omega);have k7:w2.cell? ⟨w.heap.size,7,none⟩=some (.slice sa n cap):=hrow2.cell (j:=7) rfl;have HAT:Hid (ApAt m (.slice sa n cap) (w.heap.size+1) (w.heap.size+1+1) M 0 w w2):=hd' ⟨hrow2,by rw[List.take_zero];exact CellsAt.below hA hb12 (by omega),by rw[List.take_zero];exact CellsAt.below hN hb12 (by omega),by rw[List.take_zero];exact hmp,hbel.trans (hb12.mono (by omega)),⟨by omega,by omega,by omega⟩,fun i hi=>absurd hi (by omega)⟩;rw[←setC_no]at hw1;unfold noSet at hw1;clear hrow hA hN hbel hz1 hb12 hmp hw2 hM hrow2 hm hs hn hh hsig hbr;go_enter Tryz.func53,Tryz.ntmps53
 go_upto_region 2 with fail
 try rw[hw1]
 clear hw1;go_wp2_with fail;clear hmk k7;generalize w.heap.size+1+1=N at HAT⊢;generalize w.heap.size+1=A at HAT⊢
 go_loopw [15] (fun i wr=>∃k:Nat,k≤n∧i= .int .i64 k∧ApAt m (.slice sa n cap) A N M k w wr) (fun i _=>n-(intOf i).toNat)
 case atStart=>exact⟨0,by omega,rfl,HAT.out⟩
 case round=>
  obtain⟨k,hk,rfl,hc⟩:=hrel;have HC:=hd' hc;clear HAT hc
  by_cases hlt:k<n
  ·have hx:m.sigs[k]? =some (m.sigs[k]'(by have:=HN.out;omega)):=List.getElem?_eq_getElem _
   generalize m.sigs[k]'(by have:=HN.out;omega)=s at hx;obtain⟨b1,o1,rfl,hl1,a1,n1,c1,hrow,hto,hn1⟩:=HS.out.at_ k s hx;have hrr:=cells_below hrow HC.out.bel hl1
   have hkl:k<m.sigs.length:=by rw[←HN.out];exact hlt
   have hsw:=HM.out.sigs s (List.mem_of_getElem? hx)
   have hal:s.aloneNo m.size=0:=by
    have:=HSIG.out k hkl;rw[sigNo_of hx]at this
    by_cases h0:s.aloneNo m.size=0
    ·exact h0
    ·rw[if_pos h0]at this;exact absurd this h0
   have hwh0:=(B.Sig.alone_where hal).1
   have hpl:s.placeNo=0:=by
    unfold B.Sig.whereNo at hwh0
    by_cases h0:s.placeNo=0
    ·exact h0
    ·rw[if_pos h0]at hwh0;exact absurd hwh0 h0
   have hmt:=meet_of (m.sigs.take k) s (B.Sig.place_ok hpl).2.2;have HX:=hd' hx;have HSW:=hd' hsw;have HWH:=hd' hwh0;have HMT:=hd' hmt;have HMN:=hd' (meetNo_of hx)
   have q0:(0:Int)≤(k:Int):=by omega
   have q1:(k:Int)<n:=by omega
   clear hx hrow hto hl1 hsw hal hwh0 hpl hmt hkl
   go_upto_region 6 with(first
    | refine wpList_load_mid (by rfl) 71 _ (by rfl) b1 (o1+k*19) (by rfl) (sigC s (.slice a1 n1 c1)).toList _ hrr Tryz.underlying71 (by rfl) (by rw[infoN71];rfl) ?_
    | (refine wpList_store_mid (by rfl) 71 _ _ (by rfl) wr.heap.size 0 (sigC s (.slice a1 n1 c1)) (by rfl) (by rfl) (there_alloc _ _ _ (by rfl)) (by rw[infoN71];rfl) (ones_sig _ _ _ _) ?_;generalize hw4:World.setCells _ _ _ _=w4))
   obtain⟨X,hX⟩:∃X,wr.heap.size=X:=⟨_,rfl⟩
   have hb4:Below wr.heap.size wr w4:=by
    rw[←hw4];exact((Below.refl _ _).alloc (lR' _) _).grown (grownBy_setCells _ _ _ _) (by simp) (fun k hk=>by cases hk;exact lR' _)
   have hrow4:RC w4 X 71 19 (sigC s (.slice a1 n1 c1)):=by rw[←hw4,←hX];exact RC.over _ _ _ _ (by rfl) rfl
   have hlay:=HC.out.lay;have hMr:=HC.out.map.lt;have hbox4:=HC.out.box.below hb4 (by omega);have halw4:=CellsAt.below HC.out.alw hb4 (by omega);have hany4:=CellsAt.below HC.out.any hb4 (by omega);have hmap4:=HC.out.map.below hb4 hMr;have hbw4:=HC.out.bel.trans (hb4.mono HC.out.bel.size);have k5:w4.cell? ⟨w.heap.size,5,none⟩=some (.int .i64 m.size):=hbox4.cell (j:=5) rfl
   have hMX:M<X:=by rw[←hX];exact hMr
   have hwhere:Calls Tryz.prog 78 #[.agg (sigC s (.slice a1 n1 c1)),.int .i64 m.size] w4 (fun e w'=>e= .returned (.tuple #[.agg (setC (bitF s)),.int .i64 0])∧Below w4.heap.size w4 w'):=
    (where_any s (.slice a1 n1 c1) m.size HSW.out w4).mono (fun e w' h=>by
     obtain⟨f,h1,h2,h3⟩:=h;rw[h2 HWH.out,HWH.out]at h1
     exact⟨h1,h3⟩)
   have hrr4:=RC.range hrow4;have HROW4:=hd' hrow4;have HBOX4:=hd' hbox4;have HALW4:=hd' halw4;have HANY4:=hd' hany4;have HMAP4:=hd' hmap4;have HBW4:=hd' hbw4;have HLAY:=hd' (⟨hlay.1,hlay.2.1,hlay.2.2,hMX⟩:w.heap.size<A∧A<N∧N<M∧M<X);rw[hX];clear hw4 hb4 hrow4 hbox4 halw4 hany4 hmap4 hbw4 hrr hX hlay hMr hMX
   go_upto_region 7 with(first
    | refine wpList_load_mid (by rfl) 71 _ (by rfl) X 0 (by rfl) (sigC s (.slice a1 n1 c1)).toList _ hrr4 Tryz.underlying71 (by rfl) (by rw[infoN71];rfl) ?_
    | (go_at_call 78;refine hwhere.mono ?_;rintro e w5 ⟨rfl,hb5⟩)
    | (refine wpList_store_mid (by rfl) 136 _ _ (by rfl) w5.heap.size 0 (setC (bitF s)) (by rfl) (by rfl) (by rw[setC_size];exact there_alloc _ _ _ (by rfl)) (by rw[info136];simp[setC_size]) (setC_ones _) ?_;generalize hw6:World.setCells _ _ _ _=w6))
   obtain⟨S,hS⟩:∃S,w5.heap.size=S:=⟨_,rfl⟩
   have hset6:SetAt w6 S (bitF s):=by rw[←hw6,←hS];exact SetAt.over _ _ (by rfl) _
   have hb6:Below w4.heap.size w4 w6:=by
    rw[←hw6];exact(hb5.alloc hb5.size _).grown (grownBy_setCells _ _ _ _) (by have:=hb5.size;simp;omega) (fun k hk=>by cases hk;exact hb5.size)
   have hXS:X<S:=by rw[←hS];have:=hb5.size;have:=HROW4.out.blk;omega
   have hl:=HLAY.out;have hx4:=HROW4.out.blk;have hrow6:=HROW4.out.below hb6 hx4;have hbox6:=HBOX4.out.below hb6 (by omega);have halw6:=CellsAt.below HALW4.out hb6 (by omega);have hany6:=CellsAt.below HANY4.out hb6 (by omega);have hmap6:=HMAP4.out.below hb6 (by omega);have hbw6:=HBW4.out.trans (hb6.mono HBW4.out.size);have hr1:=SetAt.range halw6;have hr2:=SetAt.range hany6;have HU:=union_any (alwF (m.sigs.take k)) (anyF (m.sigs.take k)) w6;have HROW6:=hd' hrow6;have HBOX6:=hd' hbox6;have HALW6:=hd' halw6;have HANY6:=hd' hany6;have HMAP6:=hd' hmap6;have HBW6:=hd' hbw6;have HSET6:=hd' hset6;have HXS:=hd' hXS;rw[hS];clear hw6 hset6 hb6 hXS hrow6 hbox6 halw6 hany6 hmap6 hbw6 hl hx4 hb5 hS hwhere hrr4 k5 HROW4 HBOX4 HALW4 HANY4 HMAP4 HBW4
   go_upto_region 8 with(first
    | refine wpList_load_mid (by rfl) 136 _ (by rfl) A 0 (by rfl) (setC (alwF (m.sigs.take k))).toList _ hr1 Tryz.underlying136 (by rfl) (by rw[info136];simp[setC_size]) ?_
    | refine wpList_load_mid (by rfl) 136 _ (by rfl) N 0 (by rfl) (setC (anyF (m.sigs.take k))).toList _ hr2 Tryz.underlying136 (by rfl) (by rw[info136];simp[setC_size]) ?_
    | (go_at_call 82;refine HU.mono ?_;rintro e w7 ⟨rfl,hb7⟩)
    | (refine wpList_store_mid (by rfl) 136 _ _ (by rfl) w7.heap.size 0 (setC fun r=>alwF (m.sigs.take k) r||anyF (m.sigs.take k) r) (by rfl) (by rfl) (by rw[setC_size];exact there_alloc _ _ _ (by rfl)) (by rw[info136];simp[setC_size]) (setC_ones _) ?_;generalize hw8:World.setCells _ _ _ _=w8))
   obtain⟨T,hT⟩:∃T,w7.heap.size=T:=⟨_,rfl⟩
   have hwth8:SetAt w8 T (fun r=>alwF (m.sigs.take k) r||anyF (m.sigs.take k) r):=by rw[←hw8,←hT];exact SetAt.over _ _ (by rfl) _
   have hb8:Below w6.heap.size w6 w8:=by
    rw[←hw8];exact(hb7.alloc hb7.size _).grown (grownBy_setCells _ _ _ _) (by have:=hb7.size;simp;omega) (fun k hk=>by cases hk;exact hb7.size)
   have hl:=HLAY.out;have hxs:=HXS.out;have hs6:=CellsAt.blk HSET6.out
   have hST:S<T:=by rw[←hT];have:=hb7.size;omega
   have hin8:ApIn m (.slice (some ⟨b1,o1,none⟩) n cap) A N M k s (.slice a1 n1 c1) X S T (fun r=>alwF (m.sigs.take k) r||anyF (m.sigs.take k) r) w w8:=
    ⟨HBOX6.out.below hb8 (by omega),CellsAt.below HALW6.out hb8 (by omega),CellsAt.below HANY6.out hb8 (by omega),HMAP6.out.below hb8 (by omega),HROW6.out.below hb8 (by omega),CellsAt.below HSET6.out hb8 hs6,hwth8,HBW6.out.trans (hb8.mono HBW6.out.size),⟨hl.1,hl.2.1,hl.2.2.1,hl.2.2.2,hxs,hST⟩⟩
   have j3:w8.cell? ⟨X,3,none⟩=some (.int .i64 s.role):=hin8.sig.cell (j:=3) rfl;have HIN8:=hd' hin8;rw[hT];clear hw8 hwth8 hb8 hl hxs hs6 hST hin8 hb7 hT HU hr1 hr2 HROW6 HBOX6 HALW6 HANY6 HMAP6 HBW6 HSET6 HXS HLAY
   by_cases hr:s.role=2
   ·have e1:(s.role==2)=true:=by simp[hr]
    have j4:w8.cell? ⟨X,4,none⟩=some (.int .u64 s.branch):=HIN8.out.sig.cell (j:=4) rfl;have hlk:=HIN8.out.map.look (fun v j h=>brF_no _ v j h) s.branch HSW.out.branch;have r1:=SetAt.range HIN8.out.alw;have HU:=union_any (alwF (m.sigs.take k)) (brF (m.sigs.take k) s.branch) w8
    go_upto_region 10 with(first
     | refine wpList_load_mid (by rfl) 136 _ (by rfl) A 0 (by rfl) (setC (alwF (m.sigs.take k))).toList _ r1 Tryz.underlying136 (by rfl) (by rw[info136];simp[setC_size]) ?_
     | (go_at_call 82;refine HU.mono ?_;rintro e w9 ⟨rfl,hb9⟩;have hin9:=HIN8.out.below hb9;have ht9:=SetAt.there hin9.wth;have hp9:=hin9.put (fun r=>alwF (m.sigs.take k) r||brF (m.sigs.take k) s.branch r);have HP9:=hd' hp9;clear hp9 hin9 hb9)
     | (refine wpList_store_mid (by rfl) 136 _ _ (by rfl) T 0 (setC fun r=>alwF (m.sigs.take k) r||brF (m.sigs.take k) s.branch r) (by rfl) (by rfl) (by rw[setC_size];exact ht9) (by rw[info136];simp[setC_size]) (setC_ones _) ?_;generalize hw10:World.setCells _ _ _ _=w10))
    have hin10:=HP9.out;rw[hw10]at hin10;have HIN10:=hd' hin10;clear hin10 HP9 hw10 ht9 j3 j4 hlk r1 HU HIN8;have j3:w10.cell? ⟨X,3,none⟩=some (.int .i64 s.role):=HIN10.out.sig.cell (j:=3) rfl;obtain⟨G,hG⟩:∃G,(fun r=>alwF (m.sigs.take k) r||brF (m.sigs.take k) s.branch r)=G:=⟨_,rfl⟩;rw[hG]at HIN10
    have hGw:∀j,G j=withF (m.sigs.take k) s j:=fun j=>by
     rw[←hG];unfold withF;rw[if_pos hr]
    obtain⟨c,hcc⟩:∃c,(m.sigs.take k).any (fun t=>B.meets t s)=c:=⟨_,rfl⟩
    have heq:∀W,(Op.equalIn 10000 136 (.agg (setC fun r=>bitF s r&&G r)) (.agg noSet)).run Tryz.prog W= .ok (!c) W:=fun W=>by
     obtain⟨r,h1,h2⟩:=set_eq (fun r=>bitF s r&&G r) (fun _=>false) W;rw[←setC_no]at h1;rw[h1];have h3:=HMT.out;rw[hcc]at h3
     have e:r= !c:=by
      rw[Bool.eq_iff_iff,h2];constructor
      ·intro h
       cases c with
       | false=>rfl
       | true=>
        obtain⟨j,hj,hb⟩:=h3.1 rfl;have:=h j hj;rw[hGw j,hb]at this;cases this
      ·intro h j hj
       cases c with
       | true=>cases h
       | false=>
        cases hb:(bitF s j&&G j)with
        | false=>rfl
        | true=>
         have:=h3.2 ⟨j,hj,by rw[←hGw j];exact hb⟩;cases this
     rw[e]
    unfold noSet at heq;have hmn:=HMN.out;rw[hcc]at hmn;have HR:=hd' hr;have HGE:=hd' hG;have hs1:=SetAt.range HIN10.out.set;have hs2:=SetAt.range HIN10.out.wth;have HME:=meet_any (bitF s) G w10;clear hGw hcc hr hG j3
    cases c with
    | true=>
     rw[if_pos rfl]at hmn;have HNO:=hd' (B.no_meet HH.out HSIG.out HBR.out HX.out HC.out.no (by rw[hmn];decide));have hat:=cat_any 17 s.line s.col;clear hmn
     go_wp2_with (first
      | refine wpList_load_mid (by rfl) 136 _ (by rfl) S 0 (by rfl) (setC (bitF s)).toList _ hs1 Tryz.underlying136 (by rfl) (by rw[info136];simp[setC_size]) ?_
      | refine wpList_load_mid (by rfl) 136 _ (by rfl) T 0 (by rfl) (setC G).toList _ hs2 Tryz.underlying136 (by rfl) (by rw[info136];simp[setC_size]) ?_
      | (go_at_call 83;refine HME.mono ?_;rintro e w11 ⟨rfl,hb11⟩;have hin11:=HIN10.out.below hb11;have i0:w11.cell? ⟨X,0,none⟩=some (.int .i64 s.line):=hin11.sig.cell (j:=0) rfl;have i1:w11.cell? ⟨X,1,none⟩=some (.int .i64 s.col):=hin11.sig.cell (j:=1) rfl;have HIN11:=hd' hin11;clear hin11 hb11)
      | (go_at_call 50;refine(hat _).mono ?_;rintro e w12 ⟨rfl,hb12⟩))
     go_ret;exact⟨by rw[HNO.out];rfl,HIN11.out.bel.trans (hb12.mono HIN11.out.bel.size)⟩
    | false=>
     rw[if_neg (by simp)]at hmn;have H0:=hd' hmn;clear hmn
     go_upto_region 12 with(first
      | refine wpList_load_mid (by rfl) 136 _ (by rfl) S 0 (by rfl) (setC (bitF s)).toList _ hs1 Tryz.underlying136 (by rfl) (by rw[info136];simp[setC_size]) ?_
      | refine wpList_load_mid (by rfl) 136 _ (by rfl) T 0 (by rfl) (setC G).toList _ hs2 Tryz.underlying136 (by rfl) (by rw[info136];simp[setC_size]) ?_
      | (go_at_call 83;refine HME.mono ?_;rintro e w11 ⟨rfl,hb11⟩))
     have hin11:=HIN10.out.below hb11;have j3:w11.cell? ⟨X,3,none⟩=some (.int .i64 s.role):=hin11.sig.cell (j:=3) rfl;have j4:w11.cell? ⟨X,4,none⟩=some (.int .u64 s.branch):=hin11.sig.cell (j:=4) rfl;have HIN11:=hd' hin11;clear hin11 hb11 hs1 hs2 HME heq HIN10;have r2:=SetAt.range HIN11.out.set;have hlx:X<w11.heap.size:=HIN11.out.sig.blk;have hls:S<w11.heap.size:=CellsAt.blk HIN11.out.set;have hlay:=HIN11.out.lay
     have hX4:∀w':World,(∀b,b<w11.heap.size→b≠M→w'.heap[b]? =w11.heap[b]?)→w'.cell? ⟨X,4,none⟩=some (.int .u64 s.branch):=fun w' h=>(RC.of HIN11.out.sig (h X hlx (by omega))).cell (j:=4) rfl
     have hSS:∀w':World,(∀b,b<w11.heap.size→b≠M→w'.heap[b]? =w11.heap[b]?)→SetAt w' S (bitF s):=fun w' h=>CellsAt.of HIN11.out.set (h S hls (by omega))
     have HX4:=hd' hX4;have HSS:=hd' hSS;have hlk:=(HIN11.out.below (belowN (Below.refl w11.heap.size w11) 1)).map.look (fun v j h=>brF_no _ v j h) s.branch HSW.out.branch;have HLK:=hd' hlk;clear hX4 hSS hlx hls hlk r2 hlay
     go_upto_region 13 with fail
     refine wp_region_held_drew (S:=fun w'=>∀b,b<w11.heap.size→b≠M→w'.heap[b]? =w11.heap[b]?) (by kernel_rfl) (fun b _ _=>rfl) (fun hS1=> ?_);refine takeS (i:=0) (d:=49) (v:=.map (some M)) rfl rfl rfl (by kernel_rfl) (by kernel_rfl) (by kernel_rfl) (fun _ _ _ h=>h) (fun w' h=>by go_simp) hS1 ?_;simp only[Act.put,sA',sZ',sS'];refine takeS (i:=1) (d:=50) (v:=.pointer (some ⟨X,4,none⟩)) rfl rfl rfl (by kernel_rfl) (by kernel_rfl) (by kernel_rfl) (fun _ _ _ h=>h) (fun w' h=>by go_simp) hS1 ?_;simp only[Act.put,sA',sZ',sS'];refine takeS (i:=2) (d:=51) (v:=.int .u64 s.branch) rfl rfl rfl (by kernel_rfl) (by kernel_rfl) (by kernel_rfl) (fun _ _ _ h=>h) (fun w' h=>by(have c:=HX4.out w' h;go_simp)) hS1 ?_;simp only[Act.put,sA',sZ',sS'];refine takeS (i:=3) (d:=52) (v:=.map (some M)) rfl rfl rfl (by kernel_rfl) (by kernel_rfl) (by kernel_rfl) (fun _ _ _ h=>h) (fun w' h=>by go_simp) hS1 ?_
     simp only[Act.put,sA',sZ',sS'];refine takeS (i:=4) (d:=53) (v:=.pointer (some ⟨X,4,none⟩)) rfl rfl rfl (by kernel_rfl) (by kernel_rfl) (by kernel_rfl) (fun _ _ _ h=>h) (fun w' h=>by go_simp) hS1 ?_;simp only[Act.put,sA',sZ',sS'];refine takeS (i:=5) (d:=54) (v:=.int .u64 s.branch) rfl rfl rfl (by kernel_rfl) (by kernel_rfl) (by kernel_rfl) (fun _ _ _ h=>h) (fun w' h=>by(have c:=HX4.out w' h;go_simp)) hS1 ?_;simp only[Act.put,sA',sZ',sS'];refine takeM (i:=7) (d:=56) 136 _ S 0 (setC (bitF s)) _ rfl rfl rfl rfl (by rfl) Tryz.underlying136 rfl (by rw[info136];simp[setC_size]) (by kernel_rfl) (by kernel_rfl) (by kernel_rfl) (fun _ _ _ h=>h) (fun w' h=>SetAt.range (HSS.out w' h)) hS1 ?_;simp only[Act.put,sA',sZ',sS']
     have hlk:(Instr.lookup 142 (.map (some M)) (.int .u64 s.branch) false).run Tryz.prog w11.drew= .ok (.agg (setC (brF (m.sigs.take k) s.branch))) w11.drew:=HLK.out;refine wpAnyH_ready (rs:=[6]) (by kernel_rfl) (by simp) ?_;refine AllReadyH.cons rfl (fun K hK=> ?_) AllReadyH.nil;go_simp;refine hK.out _ _ hS1 (fun hS2=> ?_);clear hK K;refine wpAnyH_ready (rs:=[8]) (by kernel_rfl) (by simp) ?_;refine AllReadyH.cons rfl (fun K hK=> ?_) AllReadyH.nil;go_simp;refine(union_any (brF (m.sigs.take k) s.branch) (bitF s) w11.drew).mono ?_;rintro e w12 ⟨rfl,hb12⟩;have hin12:=HIN11.out.below ((Below.refl w11.heap.size w11).drew.trans (hb12.mono (lR' _)));refine hK.out _ _ (fun b hb _=>hb12.block b hb) (fun hS3=> ?_);clear hK K;obtain⟨w13,hput,hm13,hg13⟩:=hin12.map.put (by unfold maxLen;omega) s.branch HSW.out.branch (fun r=>brF (m.sigs.take k) s.branch r||bitF s r)
     have hnb:=hin12.nextB HX.out HR.out HC.out.no H0.out hg13 hm13;obtain⟨hbw13,hany13,hset13,hfin⟩:=hnb;have HFIN:=hd' hfin;have r1:=SetAt.range hany13;have r2:=SetAt.range hset13;have HU:=union_any (anyF (m.sigs.take k)) (bitF s) w13
     have hS4:∀b,b<w11.heap.size→b≠M→w13.heap[b]? =w11.heap[b]? :=fun b hb hne=>(hg13.block b (Nat.lt_of_lt_of_le hb hb12.size) (by simpa using hne)).trans (hb12.block b hb)
     have HANY13:=hd' hany13;clear hfin hany13 hset13 hm13 hg13;refine wpAnyH_ready (rs:=[9]) (by kernel_rfl) (by simp) ?_;refine AllReadyH.cons rfl (fun K hK=> ?_) AllReadyH.nil;go_simp;refine hK.out _ _ hS4 (fun hS5=> ?_);clear hK K;refine wpAnyH_done (by kernel_rfl) ?_ _;clear hS1 hS2 hS3 hS4 hS5 hput hb12 hin12 hbw13 hlk
     go_wp2_with (first
      | refine wpList_load_mid (by rfl) 136 _ (by rfl) N 0 (by rfl) (setC (anyF (m.sigs.take k))).toList _ r1 Tryz.underlying136 (by rfl) (by rw[info136];simp[setC_size]) ?_
      | refine wpList_load_mid (by rfl) 136 _ (by rfl) S 0 (by rfl) (setC (bitF s)).toList _ r2 Tryz.underlying136 (by rfl) (by rw[info136];simp[setC_size]) ?_
      | (go_at_call 82;refine HU.mono ?_;rintro e w14 ⟨rfl,hb14⟩;have ht14:=SetAt.there (CellsAt.below HANY13.out hb14 (CellsAt.blk HANY13.out));have hnx:=HFIN.out w14 hb14;have HNX:=hd' hnx;clear hnx hb14)
      | (refine wpList_store_mid (by rfl) 136 _ _ (by rfl) N 0 (setC fun r=>anyF (m.sigs.take k) r||bitF s r) (by rfl) (by rfl) (by rw[setC_size];exact ht14) (by rw[info136];simp[setC_size]) (setC_ones _) ?_;generalize hw15:World.setCells _ _ _ _=w15))
     have hnx:=HNX.out;rw[hw15]at hnx;have HNX2:=hd' hnx;clear hnx HNX hw15 ht14;go_roundw
     case rel=>exact⟨k+1,by omega,by go_num,HNX2.out⟩
     case measure=>simp[intOf];omega
   ·have e1:(s.role==2)=false:=by simp[hr]
    go_upto_region 10 with fail
    obtain⟨G,hG⟩:∃G,(fun r=>alwF (m.sigs.take k) r||anyF (m.sigs.take k) r)=G:=⟨_,rfl⟩;rw[hG]at HIN8
    have hGw:∀j,G j=withF (m.sigs.take k) s j:=fun j=>by
     rw[←hG];unfold withF;rw[if_neg hr]
    obtain⟨c,hcc⟩:∃c,(m.sigs.take k).any (fun t=>B.meets t s)=c:=⟨_,rfl⟩
    have heq:∀W,(Op.equalIn 10000 136 (.agg (setC fun r=>bitF s r&&G r)) (.agg noSet)).run Tryz.prog W= .ok (!c) W:=fun W=>by
     obtain⟨r,h1,h2⟩:=set_eq (fun r=>bitF s r&&G r) (fun _=>false) W;rw[←setC_no]at h1;rw[h1];have h3:=HMT.out;rw[hcc]at h3
     have e:r= !c:=by
      rw[Bool.eq_iff_iff,h2];constructor
      ·intro h
       cases c with
       | false=>rfl
       | true=>
        obtain⟨j,hj,hb⟩:=h3.1 rfl;have:=h j hj;rw[hGw j,hb]at this;cases this
      ·intro h j hj
       cases c with
       | true=>cases h
       | false=>
        cases hb:(bitF s j&&G j)with
        | false=>rfl
        | true=>
         have:=h3.2 ⟨j,hj,by rw[←hGw j];exact hb⟩;cases this
     rw[e]
    unfold noSet at heq;have hmn:=HMN.out;rw[hcc]at hmn;have HR:=hd' hr;have HGE:=hd' hG;have hs1:=SetAt.range HIN8.out.set;have hs2:=SetAt.range HIN8.out.wth;have HME:=meet_any (bitF s) G w8;clear hGw hcc hr hG j3
    cases c with
    | true=>
     rw[if_pos rfl]at hmn;have HNO:=hd' (B.no_meet HH.out HSIG.out HBR.out HX.out HC.out.no (by rw[hmn];decide));have hat:=cat_any 17 s.line s.col;clear hmn
     go_wp2_with (first
      | refine wpList_load_mid (by rfl) 136 _ (by rfl) S 0 (by rfl) (setC (bitF s)).toList _ hs1 Tryz.underlying136 (by rfl) (by rw[info136];simp[setC_size]) ?_
      | refine wpList_load_mid (by rfl) 136 _ (by rfl) T 0 (by rfl) (setC G).toList _ hs2 Tryz.underlying136 (by rfl) (by rw[info136];simp[setC_size]) ?_
      | (go_at_call 83;refine HME.mono ?_;rintro e w11 ⟨rfl,hb11⟩;have hin11:=HIN8.out.below hb11;have i0:w11.cell? ⟨X,0,none⟩=some (.int .i64 s.line):=hin11.sig.cell (j:=0) rfl;have i1:w11.cell? ⟨X,1,none⟩=some (.int .i64 s.col):=hin11.sig.cell (j:=1) rfl;have HIN11:=hd' hin11;clear hin11 hb11)
      | (go_at_call 50;refine(hat _).mono ?_;rintro e w12 ⟨rfl,hb12⟩))
     go_ret;exact⟨by rw[HNO.out];rfl,HIN11.out.bel.trans (hb12.mono HIN11.out.bel.size)⟩
    | false=>
     rw[if_neg (by simp)]at hmn;have H0:=hd' hmn;clear hmn
     go_upto_region 12 with(first
      | refine wpList_load_mid (by rfl) 136 _ (by rfl) S 0 (by rfl) (setC (bitF s)).toList _ hs1 Tryz.underlying136 (by rfl) (by rw[info136];simp[setC_size]) ?_
      | refine wpList_load_mid (by rfl) 136 _ (by rfl) T 0 (by rfl) (setC G).toList _ hs2 Tryz.underlying136 (by rfl) (by rw[info136];simp[setC_size]) ?_
      | (go_at_call 83;refine HME.mono ?_;rintro e w11 ⟨rfl,hb11⟩))
     have hin11:=HIN8.out.below hb11;have j3:w11.cell? ⟨X,3,none⟩=some (.int .i64 s.role):=hin11.sig.cell (j:=3) rfl;have j4:w11.cell? ⟨X,4,none⟩=some (.int .u64 s.branch):=hin11.sig.cell (j:=4) rfl;have HIN11:=hd' hin11;clear hin11 hb11 hs1 hs2 HME heq HIN8;have r1:=SetAt.range HIN11.out.alw;have r2:=SetAt.range HIN11.out.set;have HU:=union_any (alwF (m.sigs.take k)) (bitF s) w11;clear j4
     go_wp2_with (first
      | refine wpList_load_mid (by rfl) 136 _ (by rfl) A 0 (by rfl) (setC (alwF (m.sigs.take k))).toList _ r1 Tryz.underlying136 (by rfl) (by rw[info136];simp[setC_size]) ?_
      | refine wpList_load_mid (by rfl) 136 _ (by rfl) S 0 (by rfl) (setC (bitF s)).toList _ r2 Tryz.underlying136 (by rfl) (by rw[info136];simp[setC_size]) ?_
      | (go_at_call 82;refine HU.mono ?_;rintro e w12 ⟨rfl,hb12⟩;have hin12:=HIN11.out.below hb12;have ht12:=SetAt.there hin12.alw;have hnx:=hin12.next HX.out HR.out HC.out.no H0.out;have HNX:=hd' hnx;clear hnx hin12 hb12)
      | (refine wpList_store_mid (by rfl) 136 _ _ (by rfl) A 0 (setC fun r=>alwF (m.sigs.take k) r||bitF s r) (by rfl) (by rfl) (by rw[setC_size];exact ht12) (by rw[info136];simp[setC_size]) (setC_ones _) ?_;generalize hw13:World.setCells _ _ _ _=w13))
     have hnx:=HNX.out;rw[hw13]at hnx;have HNX2:=hd' hnx;clear hnx HNX hw13 ht12;go_roundw
     case rel=>exact⟨k+1,by omega,by go_num,HNX2.out⟩
     case measure=>simp[intOf];omega
  ·obtain rfl:n=k:=by omega
   have hall:∀i,i<m.sigs.length→m.meetNo i=0:=fun i hi=>HC.out.no i (by rw[HN.out];exact hi)
   have HNO:=hd' (B.Msg.no_of HH.out HSIG.out HBR.out hall);clear hall;go_wp2_with fail;go_ret;exact⟨by rw[HNO.out];rfl,HC.out.bel⟩
end Code
end Go.Proofs.YtljhklblbafjkaaGreatDoor
