/- Package code: the last two methods of the table; what an operation's fields are. -/
import Derived.Test.YtljhklblbafjkaaGreatDoorCodeQ
import Derived.Deep.RegionLaw
import Derived.Deep.RegionHeld3
import Derived.Deep.DrawnRows
import Derived.Shelf.Abstract
import Derived.Outline
open Go.Lib renaming hid→hd'
open Nat renaming le_refl→lR'
namespace Go.Proofs.YtljhklblbafjkaaGreatDoor
open Go.RowKit
namespace Code
attribute [local go_sem ↓] Go.wp_at_zero Go.wp_at_succ
theorem Quint.below{N:Nat}{w w':World}(hb:Below N w w')(hN:w.heap.size≤N):∀ {fks:List FK} {vs:List Value},Quint w fks vs→Quint w' fks vs
 | [],_,_=>trivial
 | _::_,_::_::_::_::_::_,h=>⟨h.1.below hb hN,Quint.below hb hN h.2⟩
theorem Quint.snoc{w:World}{f:FK}{u0 u1 u2 u3 u4:Value}(hf:FieldAt w f u0 u1 u2 u3 u4):∀ {fks:List FK} {vs:List Value},vs.length=fks.length*5→Quint w fks vs→Quint w (fks++[f]) (vs++[u0,u1,u2,u3,u4])
 | [],[],_,_=>⟨hf,trivial⟩
 | [],_::_,h,_=>by simp at h
 | _::r,_::_::_::_::_::l,h,q=>⟨q.1,Quint.snoc hf (by simp at h;omega) q.2⟩
theorem fieldsAt_own{w:World}{base n cap:Nat}{ao:Option Addr}{vs:List Value}{fks:List FK}(h:w.ownsRow base 194 5 (.slice ao n cap) n vs)(hn:n=fks.length)(hq:Quint w fks vs):FieldsAt w ao n fks:=by
 rcases h.2 with⟨hv,h0⟩ | ⟨g,cap',cur,hv,hg,hh,_⟩
 ·refine⟨hn,fun i fk hi=> ?_⟩
  have:=(List.getElem?_eq_some_iff.1 hi).1;omega
 ·cases hv
  have hlt:g<w.heap.size:=(Array.getElem?_eq_some_iff.1 hh).1;refine⟨hn,fun i fk hi=> ?_⟩;obtain⟨v0,v1,v2,v3,v4,h0,h1,h2,h3,h4,hf⟩:=hq.get i fk hi
  have hc:∀j u,vs[j]? =some u→w.cell? ⟨g,j,none⟩=some u:=by
   intro j u hu;have:=h.cells (g:=g) rfl j u hu;rw[Addr.add]at this;split at this
   ·rename_i h0;rw[h0];exact this
   ·simpa using this
  exact⟨g,v0,v1,v2,v3,v4,rfl,hlt,hc _ _ h0,hc _ _ h1,hc _ _ h2,hc _ _ h3,hc _ _ h4,hf⟩
theorem own_top{w:World}{base g n:Nat}{vs:List Value}(hl:vs.length=n*5)(hn:n≤100)(hb:base≤w.heap.size)(hg:g=w.heap.size):
    (w.alloc (.cells vs.toArray 194)).ownsRow base 194 5 (.slice (some ⟨g,0,none⟩) n n) n vs:=by
 subst hg;exact⟨hl,.inr ⟨_,n,_,rfl,hb,heap_alloc_new w _,lR' _,by simp only[maxLen];omega,by simp[hl],by rw[List.take_of_length_le (by simp[hl])]⟩⟩
set_option maxRecDepth 100000 in
set_option maxHeartbeats 1600000 in
theorem moveM_own(T:Value)(w:World)(hT:TableAt w T):Calls Tryz.prog 143 #[T] w fun e w'=>∃ao vs,e= .returned (.slice ao 3 3)∧w'.ownsRow w.heap.size 194 5 (.slice ao 3 3) 3 vs∧Quint w' [reg,.small 1 0 7,.bytes] vs∧Below w.heap.size w w':=by
 obtain⟨v0,v1,v2,v3,v4,v5,v6,v7,v8,v9,v10,v11,v12,v13,v14,v15,v16,v17,v18,v19,rfl,hF1,hF2,hF3,hF4⟩:=hT;have o1:=hF1.one;have o2:=hF2.one;have o3:=hF3.one;have o4:=hF4.one;go_enter Tryz.func143,Tryz.ntmps143;go_wp2_with fail
 go_region_with (first | (go_at_call 135;refine(small_fn _ _ _ _ _ (by decide) (by decide)).mono ?_;rintro e w1 ⟨u0,u1,u2,u3,u4,rfl,hG,hb1⟩;have ou:=hG.one;have hc:=box_cell hb1 (by simp);have hs1:=hb1.size;have hs0:w.heap.size<w1.heap.size:=Nat.lt_of_lt_of_le (by simp) hs1;have hl:=below_into hb1 (by simp);have hs:=hl.size) | (go_at_call 182;refine(bytes_any _).mono ?_;rintro e w2 ⟨u5,u6,u7,u8,u9,rfl,hG2,hb2⟩;have ou2:=hG2.one;have hc2:=fun j=>(hb2.cell (p:=⟨w.heap.size,j,none⟩) hs0).trans (hc j);have hs2:=hb2.size;have hl2:=hl.trans (hb2.mono hs)))
 all_goals have hs3:=hl2.size
 all_goals go_wp2
 all_goals go_ret
 all_goals exact⟨_,_,rfl,own_top rfl (by omega) hs3 rfl,⟨((hF1.into hb1 (lR' _)).below hb2 (lR' _)).alloc _,(hG.below hb2 (lR' _)).alloc _,hG2.alloc _,trivial⟩,hl2.alloc (by omega) _⟩
set_option maxRecDepth 100000 in
set_option maxHeartbeats 1600000 in
theorem skipM_any(T:Value)(w:World)(hT:TableAt w T):Calls Tryz.prog 148 #[T] w fun e w'=>∃ao cap,e= .returned (.slice ao 1 cap)∧FieldsAt w' ao 1 [.skip]∧Below w.heap.size w w':=by
 obtain⟨v0,v1,v2,v3,v4,v5,v6,v7,v8,v9,v10,v11,v12,v13,v14,v15,v16,v17,v18,v19,rfl,hF1,hF2,hF3,hF4⟩:=hT;have o1:=hF1.one;have o2:=hF2.one;have o3:=hF3.one;have o4:=hF4.one;clear hF1 hF2 hF3 hF4;go_enter Tryz.func148,Tryz.ntmps148;go_wp2_with (go_at_call 184;refine(skip_any _).mono ?_;rintro e w1 ⟨u0,u1,u2,u3,u4,rfl,hG,hb1⟩;have ou:=hG.one;have hs1:=hb1.size);go_ret;refine⟨_,_,rfl,fields_top (by exact⟨hG.alloc _,trivial⟩) rfl rfl, ?_⟩;simp at hs1;exact(((Below.refl _ _).alloc (lR' _) _).trans (hb1.mono (by simp))).alloc (by omega) _
theorem Caps.grown{w w2:World}{own:Option Nat}{k:Nat}{lo hi:Int}{b4 b5 b6 b7:Nat}(h:Caps w k lo hi b4 b5 b6 b7)(hg:w.grownBy w2 own)(hne:∀g,own=some g→∃c:Array Value,c.size=3∧w.cell? ⟨g,0,none⟩=some (.func (.func 163) #[] c)):Caps w2 k lo hi b4 b5 b6 b7:=by
 obtain⟨s,hs,h7⟩:=h.c7
 have n4:some b4≠own:=by
  intro e;obtain⟨c,hc,hx⟩:=hne b4 e.symm;have:=h.c4;rw[hx]at this;simp[fn0]at this;rw[this.2]at hc;simp at hc
 have n5:some b5≠own:=by
  intro e;obtain⟨c,hc,hx⟩:=hne b5 e.symm;have:=h.c5;rw[hx]at this;simp at this
 have n6:some b6≠own:=by
  intro e;obtain⟨c,hc,hx⟩:=hne b6 e.symm;have:=h.c6;rw[hx]at this;simp at this
 have n7:some b7≠own:=by
  intro e;obtain⟨c,hc,hx⟩:=hne b7 e.symm;rw[hx]at h7;simp at h7
 have hsz:=hg.size
 exact⟨(hg.cell_far ⟨b4,0,none⟩ h.l4 n4).trans h.c4,(hg.cell_far ⟨b5,0,none⟩ h.l5 n5).trans h.c5,(hg.cell_far ⟨b6,0,none⟩ h.l6 n6).trans h.c6,⟨s,hs,(hg.cell_far ⟨b7,0,none⟩ h.l7 n7).trans h7⟩,
  Nat.lt_of_lt_of_le h.l4 hsz,Nat.lt_of_lt_of_le h.l5 hsz,Nat.lt_of_lt_of_le h.l6 hsz,Nat.lt_of_lt_of_le h.l7 hsz⟩
theorem FieldAt.grown{w w2:World}{own:Option Nat}{fk:FK}{v0 v1 v2 v3 v4:Value}(h:FieldAt w fk v0 v1 v2 v3 v4)(hg:w.grownBy w2 own)(hne:∀g,own=some g→∃c:Array Value,c.size=3∧w.cell? ⟨g,0,none⟩=some (.func (.func 163) #[] c)):FieldAt w2 fk v0 v1 v2 v3 v4:=by
 cases fk with
 | small k lo hi=>obtain⟨hk,b4,b5,b6,b7,hc,h⟩:=h;exact⟨hk,b4,b5,b6,b7,hc.grown hg hne,h⟩
 | number=>exact h
 | sign=>exact h
 | skip=>obtain⟨b4,b5,b6,b7,hc,h⟩:=h;exact⟨b4,b5,b6,b7,hc.grown hg hne,h⟩
 | bytes=>obtain⟨b4,b5,b6,b7,hc,h⟩:=h;exact⟨b4,b5,b6,b7,hc.grown hg hne,h⟩
theorem Quint.grown{w w2:World}{own:Option Nat}(hg:w.grownBy w2 own)(hne:∀g,own=some g→∃c:Array Value,c.size=3∧w.cell? ⟨g,0,none⟩=some (.func (.func 163) #[] c)):∀ {fks:List FK} {vs:List Value},Quint w fks vs→Quint w2 fks vs
 | [],_,_=>trivial
 | _::_,_::_::_::_::_::_,h=>⟨h.1.grown hg hne,Quint.grown hg hne h.2⟩
theorem own_first{w:World}{base n cap:Nat}{ao:Option Addr}{vs:List Value}{fks:List FK}{k:Nat}{lo hi:Int}(h:w.ownsRow base 194 5 (.slice ao n cap) n vs)(hq:Quint w (.small k lo hi::fks) vs):
    ∀g,(Value.slice ao n cap).ownBlock=some g→∃c:Array Value,c.size=3∧w.cell? ⟨g,0,none⟩=some (.func (.func 163) #[] c):=by
 intro g hg;obtain⟨v0,v1,v2,v3,v4,h0,_,_,_,_,hf⟩:=hq.get 0 _ rfl;obtain⟨_,b4,b5,b6,b7,_,rfl,_⟩:=hf;have:=h.cells (g:=g) hg 0 _ h0;exact⟨_,rfl,this⟩
theorem range_below{W w1:World}{N b o:Nat}{cs:List Value}(h:W.rangeAt b o cs)(hb:Below N W w1)(hN:b<N):w1.rangeAt b o cs:=fun j v hv=>(hb.cell (p:=⟨b,o+j,none⟩) hN).trans (h j v hv)
theorem two_new(w:World)(a b:Obj):((w.alloc a).alloc b).drew.heap[w.heap.size+1]? =some b:=by
 have h:((w.alloc a).alloc b).heap[w.heap.size+1]? =some b:=by
  have:=heap_alloc_new (w.alloc a) b;simpa using this
 exact h
theorem below_two{w w1:World}{N:Nat}{a b:Obj}(hb:Below N ((w.alloc a).alloc b).drew w1)(hN:w.heap.size≤N):Below w.heap.size w w1:=((((Below.refl _ _).alloc (lR' _) a).alloc (by simp) b).drew).trans (hb.mono hN)
theorem infoField:(Tryz.prog.info? 194).map (fun i=>(i.zero,i.size,i.bytes))=some (some (.agg #[.nilFunc,.nilFunc,.nilFunc,.nilFunc,.nilFunc]),5,40):=by kernel_rfl
theorem TableAt.below{N:Nat}{w w':World}{T:Value}(h:TableAt w T)(hb:Below N w w')(hN:w.heap.size≤N):TableAt w' T:=by
 obtain⟨v0,v1,v2,v3,v4,v5,v6,v7,v8,v9,v10,v11,v12,v13,v14,v15,v16,v17,v18,v19,e,hF1,hF2,hF3,hF4⟩:=h;exact⟨v0,v1,v2,v3,v4,v5,v6,v7,v8,v9,v10,v11,v12,v13,v14,v15,v16,v17,v18,v19,e,hF1.below hb hN,hF2.below hb hN,hF3.below hb hN,hF4.below hb hN⟩
theorem blend_app{ops:Array Oper}{o:Oper}{a:Act}{K:Act→World→Prop}{Q:Exit→Act→World→Prop}{X:Prop}{w W:World}{base B:Nat}{ao:Option Addr}{vs:List Value}{v15 v16 v17 v18 v19:Value}
    (hgd:o.guard=none) (s x:Operand) (ho:o.op= .call { callee:=.builtin .append,args:= #[s,x],argTypes:= #[185,185]})
    (hs:a.eval s= .slice ao 3 3) (hx:a.eval x= .slice (some ⟨B,0,none⟩) 1 1) (hown:W.ownsRow base 194 5 (.slice ao 3 3) 3 vs) (hq:Quint W [reg,.small 1 0 7,.bytes] vs)
    (hB:W.heap[B]? =some (.cells #[v15,v16,v17,v18,v19] 194 (0,0))) (hF4:FieldAt w .number v15 v16 v17 v18 v19) (hbase:base≤W.heap.size) (hw:w.heap.size≤base) (hL:Below w.heap.size w W)
    (h:∀ao' cap' w2,FieldsAt w2 ao' 4 [reg,.small 1 0 7,.bytes,.number]→Below w.heap.size w w2→Below base W w2→K (a.put o.dst (.slice ao' 4 cap')) w2):
    if Region.wanted o (yielded ops a.tmps)=true then Oper.wp Tryz.prog o a W K Q else X:=by
 have o4:=hF4.one;refine step_app (W:=W) Tryz.underlying185 infoField rfl (by omega) hgd s x ho base hs hown hx hB rfl rfl (by simp[o4]) (by omega) (by omega) hbase ?_;intro ao' cap' w2 hown2 hg2 hb2 hs2;have hQ:=Quint.grown hg2 (own_first hown hq) hq
 have hlen:vs.length=[reg,FK.small 1 0 7,FK.bytes].length*5:=by have:=hown.1;simpa using this
 exact h ao' cap' w2 (fieldsAt_own hown2 rfl (Quint.snoc (show FieldAt w2 .number v15 v16 v17 v18 v19 from hF4) hlen hQ)) (hL.trans (hb2.mono hw)) hb2
end Code
end Go.Proofs.YtljhklblbafjkaaGreatDoor
namespace Go.Proofs.YtljhklblbafjkaaGreatDoor
open Go.RowKit
namespace Code
attribute [local go_sem ↓] Go.wp_at_zero Go.wp_at_succ
def TabIn(C:Array Value)(vs:List Value)(B:Nat)(w:World):Prop:=w.rangeAt B 0 C.toList∧w.rangeAt B 15 vs
theorem TabIn.below{C:Array Value}{vs:List Value}{B N:Nat}{w w':World}(h:TabIn C vs B w)(hb:Below N w w')(hB:B<N):TabIn C vs B w':=⟨range_below h.1 hb hB,range_below h.2 hb hB⟩
theorem tabIn_new(C:Array Value)(vs:List Value)(w:World)(hv:∀j v,vs[j]? =some v→C[15+j]? =some v)(t:TypeId):TabIn C vs w.heap.size (w.alloc (.cells C t)):=by
 have hb:=heap_alloc_new w (.cells C t);refine⟨?_,fun j v h=> ?_⟩
 ·have:=World.rangeAt_of_block hb 0 C.size
  simpa using this
 ·rw[cell_of_row _ _ _ _ _ _ hb];exact hv j v h
set_option maxRecDepth 100000 in
set_option maxHeartbeats 3200000 in
theorem blendM_core(C:Array Value)(v15 v16 v17 v18 v19:Value)(w:World)(hC:C.size=20)(hv:∀j v,[v15,v16,v17,v18,v19][j]? =some v→C[15+j]? =some v)
    (hT:TableAt w (.agg C)) (hF4:FieldAt w .number v15 v16 v17 v18 v19):
    Calls Tryz.prog 144 #[.agg C] w fun e w'=>∃ao cap,e= .returned (.slice ao 4 cap)∧FieldsAt w' ao 4 [reg,.small 1 0 7,.bytes,.number]∧Below w.heap.size w w':=by
 have HT:=hd' hT;have o4:=hF4.one;have HF:=hd' hF4;have hS0:=tabIn_new C [v15,v16,v17,v18,v19] w hv 231
 have hi20:(Tryz.prog.info? 231).map (·.size)=some C.toList.length:=by rw[Array.length_toList,hC];kernel_rfl
 have hi5:(Tryz.prog.info? 194).map (·.size)=some [v15,v16,v17,v18,v19].length:=by kernel_rfl
 have HI20:=hd' hi20;have HI5:=hd' hi5;have HS0:=hd' hS0;clear hT hF4 hv hC hS0 hi20 hi5;go_enter Tryz.func144,Tryz.ntmps144;go_wp2_with fail;refine wp_region_held_drew (S:=TabIn C [v15,v16,v17,v18,v19] w.heap.size) (by kernel_rfl) (TabIn.below (N:=w.heap.size+1) HS0.out (Below.refl _ _).drew (by omega)) (fun hS1=> ?_);refine wpAnyH_take (i:=0) (v:=.agg C) rfl (by kernel_rfl) (by kernel_rfl) (by kernel_rfl) (fun _ _ _ h=>h) (yieldsIf_load_mid (by rfl) _ _ rfl w.heap.size 0 (by rfl) C.toList _ (fun _ h=>h.1) Tryz.underlying231 rfl HI20.out) hS1 ?_;simp only[Act.put,List.setIfInBounds_toArray];refine wpAnyH_take (i:=2) (v:=.pointer (some ⟨w.heap.size,15,none⟩)) rfl (by kernel_rfl) (by kernel_rfl) (by kernel_rfl) (fun _ _ _ h=>h) (Or.inl ⟨by rfl,fun w' _=>by go_simp⟩) hS1 ?_;simp only[Act.put]
 refine wpAnyH_take (i:=3) (v:=.agg #[v15,v16,v17,v18,v19]) rfl (by kernel_rfl) (by kernel_rfl) (by kernel_rfl) (fun _ _ _ h=>h) (yieldsIf_load_mid (by rfl) _ _ rfl w.heap.size 15 (by rfl) [v15,v16,v17,v18,v19] _ (fun _ h=>h.2) Tryz.underlying194 rfl HI5.out) hS1 ?_;simp only[Act.put];refine wpAnyH_ready (rs:=[1,4]) (by kernel_rfl) (by simp) ?_;refine AllReadyH.cons rfl (fun K hK=> ?_) (AllReadyH.cons rfl (fun K hK=> ?_) AllReadyH.nil)
 ·go_simp
  refine(moveM_own _ _ (HT.out.below (((Below.refl _ _).alloc (lR' _) _).drew) (lR' _))).mono ?_;rintro e w1 ⟨ao,vs,rfl,hown,hq,hb1⟩
  have hs0:w.heap.size≤(w.alloc (.cells C 231)).drew.heap.size:=by simp
  have hl:=below_into hb1 hs0;have hs1:=hl.size;have hs2:=hb1.size;refine hK.out _ _ (hS1.below hb1 (by simp)) (fun hS2=> ?_);clear hK K;refine wpAnyH_ready (rs:=[4]) (by kernel_rfl) (by simp) ?_;refine AllReadyH.cons rfl (fun K hK=> ?_) AllReadyH.nil;go_simp;refine hK.out _ _ (hS2.below (N:=w.heap.size+1) ((Below.refl _ _).alloc (by simp at hs2;omega) _) (by omega)) (fun hS3=> ?_);clear hK K;refine wpAnyH_ready (rs:=[5]) (by kernel_rfl) (by simp) ?_;refine AllReadyH.cons rfl (fun K hK=> ?_) AllReadyH.nil;refine blend_app (w:=w) (W:=(w1.alloc (.cells #[v15,v16,v17,v18,v19] 194))) (by rfl) _ _ (by rfl) (by rfl) (by rfl) (hown.alloc _) (hq.below ((Below.refl _ _).alloc (lR' _) _) (lR' _)) (heap_alloc_new w1 _) HF.out (Nat.le_trans hs2 (by simp)) hs0 (hl.alloc hs1 _) ?_;intro ao' cap' w2 hFs hL hb2;refine hK.out _ _ (hS3.below hb2 (by simp)) (fun hS4=> ?_);clear hK K
  refine wpAnyH_take (i:=6) (v:=.slice ao' 4 cap') rfl (by kernel_rfl) (by kernel_rfl) (by kernel_rfl) (fun _ _ _ h=>h) (Or.inl ⟨by rfl,fun w' _=>by rfl⟩) hS4 ?_;refine wpAnyH_done (by kernel_rfl) ?_ _
  go_wp2
  go_ret;exact⟨_,_,rfl,hFs,hL⟩
 ·go_simp
  have hs0:w.heap.size≤((w.alloc (.cells C 231)).drew.alloc (.cells #[v15,v16,v17,v18,v19] 194)).heap.size:=by simp;omega
  refine hK.out _ _ (hS1.below (N:=w.heap.size+1) ((Below.refl _ _).alloc (by simp) _) (by omega)) (fun hS2=> ?_);clear hK K;refine wpAnyH_ready (rs:=[1]) (by kernel_rfl) (by simp) ?_;refine AllReadyH.cons rfl (fun K hK=> ?_) AllReadyH.nil;go_simp;refine(moveM_own _ _ (HT.out.below ((((Below.refl _ _).alloc (lR' _) _).alloc (by simp) _).drew) (lR' _))).mono ?_;rintro e w1 ⟨ao,vs,rfl,hown,hq,hb1⟩;have hbk:=(hb1.block (w.heap.size+1) (by simp)).trans (two_new w _ _);have hl:=below_two hb1 hs0;have hs1:=hl.size;have hs2:=hb1.size;refine hK.out _ _ (hS2.below hb1 (by simp;omega)) (fun hS3=> ?_);clear hK K;refine wpAnyH_ready (rs:=[5]) (by kernel_rfl) (by simp) ?_;refine AllReadyH.cons rfl (fun K hK=> ?_) AllReadyH.nil;refine blend_app (w:=w) (W:=w1) (by rfl) _ _ (by rfl) (by rfl) (by rfl) hown hq hbk HF.out hs2 hs0 hl ?_;intro ao' cap' w2 hFs hL hb2
  refine hK.out _ _ (hS3.below hb2 (by simp;omega)) (fun hS4=> ?_);clear hK K;refine wpAnyH_take (i:=6) (v:=.slice ao' 4 cap') rfl (by kernel_rfl) (by kernel_rfl) (by kernel_rfl) (fun _ _ _ h=>h) (Or.inl ⟨by rfl,fun w' _=>by rfl⟩) hS4 ?_;refine wpAnyH_done (by kernel_rfl) ?_ _
  go_wp2
  go_ret;exact⟨_,_,rfl,hFs,hL⟩
theorem blendM_any(T:Value)(w:World)(hT:TableAt w T):Calls Tryz.prog 144 #[T] w fun e w'=>∃ao cap,e= .returned (.slice ao 4 cap)∧FieldsAt w' ao 4 [reg,.small 1 0 7,.bytes,.number]∧Below w.heap.size w w':=by
 have HT:=hd' hT;obtain⟨v0,v1,v2,v3,v4,v5,v6,v7,v8,v9,v10,v11,v12,v13,v14,v15,v16,v17,v18,v19,rfl,hF1,hF2,hF3,hF4⟩:=hT;refine blendM_core _ v15 v16 v17 v18 v19 w rfl ?_ HT.out hF4;intro j v hj
 have hlt:j<5:=by have:=(List.getElem?_eq_some_iff.1 hj).1;simpa using this
 rcases(show j=0∨j=1∨j=2∨j=3∨j=4 by omega)with rfl | rfl | rfl | rfl | rfl<;>exact hj
end Code
end Go.Proofs.YtljhklblbafjkaaGreatDoor
namespace Go.Proofs.YtljhklblbafjkaaGreatDoor
open Go.RowKit
namespace Code
def fieldsOf(o:Int):List FK:=
 if o=0 then []else if o=1∨o=8 then [reg,.number]else if 2≤o∧o≤5 then [reg,other]else if o=6∨o=7 then [reg,.small 2 0 63]
 else if 9≤o∧o≤12 then [reg,.small 1 0 7,.bytes]else if o=13 then [reg,.small 1 0 7,.bytes,.number]else if o=14 then [reg,.small 2 1 64]
 else if o=15∨o=16 then [reg,slot]else if o=17 then [reg,slot,.small 2 1 64,.sign]else if o=18 then [.skip]else [reg,.skip,.number]
def okB(fk:FK)(x:B.Ins):Bool:=
 match fk with
 | .small k lo hi=>inB lo (get k x) hi
 | .number=>true
 | .sign=>decide (x.imm≤1)
 | .skip=>inB 0 x.n 16384
 | .bytes=>bytesOk x
def encs(fks:List FK)(x:B.Ins):List Nat:=fks.flatMap (fun fk=>enc fk x)
def gots(fks:List FK)(y x:B.Ins):B.Ins:=fks.foldl (fun x fk=>got fk x y) x
theorem ops_cases{o:Int}(h:B.isOp o=true):o=0∨o=1∨o=2∨o=3∨o=4∨o=5∨o=6∨o=7∨o=8∨o=9∨o=10∨o=11∨o=12∨o=13∨o=14∨o=15∨o=16∨o=17∨o=18∨o=19:=by
 unfold B.isOp at h;simp at h;omega
theorem right_law(x:B.Ins)(hw:x.Wf)(h:B.isOp x.op=true):x.right=((fieldsOf x.op).all (fun fk=>okB fk x)&&decide (gots (fieldsOf x.op) x ⟨x.op,0,0,0,0⟩=x)):=by
 obtain⟨o,a,b,n,m⟩:=x;have hm:=hw.imm;unfold B.InU64 at hm;simp only at hm h⊢;clear hw;rcases ops_cases h with rfl | rfl | rfl | rfl | rfl | rfl | rfl | rfl | rfl | rfl | rfl | rfl | rfl | rfl | rfl | rfl | rfl | rfl | rfl | rfl
 all_goals
  rw[Bool.eq_iff_iff];simp[fieldsOf,B.Ins.right,B.isOp,B.hasA,B.hiB,B.loN,B.hiN,B.hiImm,reg,other,slot,okB,inB,get,bytesOk,gots,got,B.Ins.set,byteOf]
  try omega
end Code
end Go.Proofs.YtljhklblbafjkaaGreatDoor
namespace Go.Proofs.YtljhklblbafjkaaGreatDoor
open Go.RowKit
namespace Code
structure FnVal(v:Value)(f:Nat)(caps:Array Value):Prop where
 eq:v= .func (.func f) #[] caps
 enters:∀(args:Array Value) (w:World),(callFunc f args).run Tryz.prog w= .ok (.enter f args) w
theorem en_small1(b4 b5 b6:Nat):FnVal (f1 b4 b5 b6) 163 #[P0 b4,P0 b5,P0 b6]:=⟨rfl,enters_of Tryz.func163 (by kernel_rfl) rfl⟩
theorem en_small2(b4:Nat):FnVal (f2 b4) 164 #[P0 b4]:=⟨rfl,enters_of Tryz.func164 (by kernel_rfl) rfl⟩
theorem en_small3(b4:Nat):FnVal (f3 b4) 165 #[P0 b4]:=⟨rfl,enters_of Tryz.func165 (by kernel_rfl) rfl⟩
theorem en_small4(b7 b4:Nat):FnVal (f4 b7 b4) 167 #[P0 b7,P0 b4]:=⟨rfl,enters_of Tryz.func167 (by kernel_rfl) rfl⟩
theorem en_number1:FnVal (fn0 172) 172 #[]:=⟨rfl,enters_of Tryz.func172 (by kernel_rfl) rfl⟩
theorem en_number2:FnVal (fn0 173) 173 #[]:=⟨rfl,enters_of Tryz.func173 (by kernel_rfl) rfl⟩
theorem en_number3:FnVal (fn0 175) 175 #[]:=⟨rfl,enters_of Tryz.func175 (by kernel_rfl) rfl⟩
theorem en_number4:FnVal (fn0 177) 177 #[]:=⟨rfl,enters_of Tryz.func177 (by kernel_rfl) rfl⟩
theorem en_sign1:FnVal (fn0 198) 198 #[]:=⟨rfl,enters_of Tryz.func198 (by kernel_rfl) rfl⟩
theorem en_sign2:FnVal (fn0 199) 199 #[]:=⟨rfl,enters_of Tryz.func199 (by kernel_rfl) rfl⟩
theorem en_skip1:FnVal (fn0 201) 201 #[]:=⟨rfl,enters_of Tryz.func201 (by kernel_rfl) rfl⟩
theorem en_skip2:FnVal (fn0 202) 202 #[]:=⟨rfl,enters_of Tryz.func202 (by kernel_rfl) rfl⟩
theorem en_bytes1:FnVal (fn0 197) 197 #[]:=⟨rfl,enters_of Tryz.func197 (by kernel_rfl) rfl⟩
theorem ok_call{w:World}{fk:FK}{v0 v1 v2 v3 v4:Value}(h:FieldAt w fk v0 v1 v2 v3 v4):∃f caps,FnVal v0 f caps∧
    ∀(N:Nat) (w2:World) (x:B.Ins) (args:Array Value),Below N w w2→w.heap.size≤N→(fk= .bytes→0≤x.b∧x.b≤7)→args= #[valI x]++caps→
     Calls Tryz.prog f args w2 fun e w'=>e= .returned (.bool (okB fk x))∧Below w2.heap.size w2 w':=by
 cases fk with
 | small k lo hi=>
  obtain⟨hk,b4,b5,b6,b7,hc,rfl,rfl,rfl,rfl,rfl⟩:=h;refine⟨_,_,en_small1 _ _ _,fun N w2 x args hb hN _ he=> ?_⟩
  obtain rfl:args= #[valI x,P0 b4,P0 b5,P0 b6]:=by simpa using he
  exact ok_small k hk lo hi b4 b5 b6 b7 x w2 (hc.below hb hN)
 | number=>
  obtain⟨rfl,rfl,rfl,rfl,rfl⟩:=h;refine⟨_,_,en_number1,fun N w2 x args hb hN _ he=> ?_⟩
  obtain rfl:args= #[valI x]:=by simpa using he
  exact ok_number x w2
 | sign=>
  obtain⟨rfl,rfl,rfl,rfl,rfl⟩:=h;refine⟨_,_,en_sign1,fun N w2 x args hb hN _ he=> ?_⟩
  obtain rfl:args= #[valI x]:=by simpa using he
  exact ok_sign x w2
 | skip=>
  obtain⟨b4,b5,b6,b7,hc,rfl,rfl,rfl,rfl,rfl⟩:=h;refine⟨_,_,en_small1 _ _ _,fun N w2 x args hb hN _ he=> ?_⟩
  obtain rfl:args= #[valI x,P0 b4,P0 b5,P0 b6]:=by simpa using he
  exact ok_small 2 (by omega) 0 16384 b4 b5 b6 b7 x w2 (hc.below hb hN)
 | bytes=>
  obtain⟨b4,b5,b6,b7,hc,rfl,rfl,rfl,rfl,rfl⟩:=h;refine⟨_,_,en_bytes1,fun N w2 x args hb hN hx he=> ?_⟩
  obtain rfl:args= #[valI x]:=by simpa using he
  exact ok_bytes x w2 (hx rfl)
theorem write_call{w:World}{fk:FK}{v0 v1 v2 v3 v4:Value}(h:FieldAt w fk v0 v1 v2 v3 v4):∃f caps,FnVal v1 f caps∧
    ∀(N:Nat) (w2:World) (x:B.Ins) (Bw base:Nat) (bs:List Nat) (args:Array Value),Below N w w2→w.heap.size≤N→B.InU64 x.imm→bs.length≤100→WrAt w2 base Bw bs x→base≤w2.heap.size→args= #[P0 Bw]++caps→
     Calls Tryz.prog f args w2 fun e w'=>e= .returned (.tuple #[])∧WrAt w' base Bw (bs++enc fk x) x∧Below base w2 w':=by
 cases fk with
 | small k lo hi=>
  obtain⟨hk,b4,b5,b6,b7,hc,rfl,rfl,rfl,rfl,rfl⟩:=h;refine⟨_,_,en_small2 _,fun N w2 x Bw base bs args hb hN hx hl hw hbase he=> ?_⟩
  obtain rfl:args= #[P0 Bw,P0 b4]:=by simpa using he
  exact write_small k hk b4 Bw base bs x w2 (hc.below hb hN).c4 hl hw hbase
 | number=>
  obtain⟨rfl,rfl,rfl,rfl,rfl⟩:=h;refine⟨_,_,en_number2,fun N w2 x Bw base bs args hb hN hx hl hw hbase he=> ?_⟩
  obtain rfl:args= #[P0 Bw]:=by simpa using he
  exact write_number Bw base bs x w2 hx hl hw hbase
 | sign=>
  obtain⟨rfl,rfl,rfl,rfl,rfl⟩:=h;refine⟨_,_,en_number2,fun N w2 x Bw base bs args hb hN hx hl hw hbase he=> ?_⟩
  obtain rfl:args= #[P0 Bw]:=by simpa using he
  exact write_number Bw base bs x w2 hx hl hw hbase
 | skip=>
  obtain⟨b4,b5,b6,b7,hc,rfl,rfl,rfl,rfl,rfl⟩:=h;refine⟨_,_,en_skip1,fun N w2 x Bw base bs args hb hN hx hl hw hbase he=> ?_⟩
  obtain rfl:args= #[P0 Bw]:=by simpa using he
  exact write_skip Bw base bs x w2 hl hw hbase
 | bytes=>
  obtain⟨b4,b5,b6,b7,hc,rfl,rfl,rfl,rfl,rfl⟩:=h;refine⟨_,_,en_small2 _,fun N w2 x Bw base bs args hb hN hx hl hw hbase he=> ?_⟩
  obtain rfl:args= #[P0 Bw,P0 b4]:=by simpa using he
  exact write_small 2 (by omega) b4 Bw base bs x w2 (hc.below hb hN).c4 hl hw hbase
theorem byteOf_lt(v:Int):byteOf v<256:=by unfold byteOf;omega
theorem read_call{w:World}{fk:FK}{v0 v1 v2 v3 v4:Value}(h:FieldAt w fk v0 v1 v2 v3 v4):∃f caps,FnVal v2 f caps∧
    ∀(N:Nat) (w2:World) (x y:B.Ins) (Rb base:Nat) (bytes:List Nat) (p:Nat) (args:Array Value),Below N w w2→w.heap.size≤N→w.heap.size≤base→B.InU64 y.imm→okB fk y=true→bytes.length≤100→RdAt w2 base Rb bytes p x→
     (∀i c,(enc fk y)[i]? =some c→bytes[p+i]? =some c)→args= #[P0 Rb]++caps→
     Calls Tryz.prog f args w2 fun e w'=>e= .returned (.tuple #[])∧RdAt w' base Rb bytes (p+(enc fk y).length) (got fk x y)∧Below base w2 w':=by
 cases fk with
 | small k lo hi=>
  obtain⟨hk,b4,b5,b6,b7,hc,rfl,rfl,rfl,rfl,rfl⟩:=h;refine⟨_,_,en_small3 _,fun N w2 x y Rb base bytes p args hb hN hbase hy hok hl hr he ha=> ?_⟩
  obtain rfl:args= #[P0 Rb,P0 b4]:=by simpa using ha
  exact read_small k hk b4 Rb base bytes p (byteOf (get k y)) x w2 (hc.below hb hN).c4 (Nat.lt_of_lt_of_le hc.l4 hbase) hr (he 0 _ rfl) (byteOf_lt _) hl
 | number=>
  obtain⟨rfl,rfl,rfl,rfl,rfl⟩:=h;refine⟨_,_,en_number3,fun N w2 x y Rb base bytes p args hb hN hbase hy hok hl hr he ha=> ?_⟩
  obtain rfl:args= #[P0 Rb]:=by simpa using ha
  unfold B.InU64 at hy;have:=read_number Rb base bytes p y.imm.toNat x w2 hr (by omega) he hl;rw[show((y.imm.toNat:Nat):Int)=y.imm by omega]at this;exact this
 | sign=>
  obtain⟨rfl,rfl,rfl,rfl,rfl⟩:=h;refine⟨_,_,en_number3,fun N w2 x y Rb base bytes p args hb hN hbase hy hok hl hr he ha=> ?_⟩
  obtain rfl:args= #[P0 Rb]:=by simpa using ha
  unfold B.InU64 at hy;have:=read_number Rb base bytes p y.imm.toNat x w2 hr (by omega) he hl;rw[show((y.imm.toNat:Nat):Int)=y.imm by omega]at this;exact this
 | skip=>
  obtain⟨b4,b5,b6,b7,hc,rfl,rfl,rfl,rfl,rfl⟩:=h;refine⟨_,_,en_skip2,fun N w2 x y Rb base bytes p args hb hN hbase hy hok hl hr he ha=> ?_⟩
  obtain rfl:args= #[P0 Rb]:=by simpa using ha
  simp[okB,inB]at hok
  have e:(y.n%18446744073709551616).toNat=y.n.toNat:=by omega
  simp only[enc,e]at he⊢;have:=read_skip Rb base bytes p y.n.toNat x w2 hr (by omega) he hl;rw[show((y.n.toNat:Nat):Int)=y.n by omega]at this;exact this
 | bytes=>
  obtain⟨b4,b5,b6,b7,hc,rfl,rfl,rfl,rfl,rfl⟩:=h;refine⟨_,_,en_small3 _,fun N w2 x y Rb base bytes p args hb hN hbase hy hok hl hr he ha=> ?_⟩
  obtain rfl:args= #[P0 Rb,P0 b4]:=by simpa using ha
  exact read_small 2 (by omega) b4 Rb base bytes p (byteOf y.n) x w2 (hc.below hb hN).c4 (Nat.lt_of_lt_of_le hc.l4 hbase) hr (he 0 _ rfl) (byteOf_lt _) hl
end Code
end Go.Proofs.YtljhklblbafjkaaGreatDoor
namespace Go.Proofs.YtljhklblbafjkaaGreatDoor
open Go.RowKit
namespace Code
attribute [local go_sem ↓] Go.wp_at_zero Go.wp_at_succ
def FieldsOut(o:Int)(w:World)(e:Ending)(w':World):Prop:=
 ∃ao n cap,e= .returned (.tuple #[.slice ao n cap,.bool true])∧FieldsAt w' ao n (fieldsOf o)∧Below w.heap.size w w'
structure Makes(f:Nat)(T:Value)(fks:List FK):Prop where
 enters:∀(args:Array Value) (w:World),(callFunc f args).run Tryz.prog w= .ok (.enter f args) w
 call:∀w,TableAt w T→Calls Tryz.prog f #[T] w fun e w'=>∃ao n cap,e= .returned (.slice ao n cap)∧FieldsAt w' ao n fks∧Below w.heap.size w w'
theorem of_via(o:Int)(f:Nat)(T:Value)(b:Nat)(w:World)(hm:MapIs w b (tabL T))(hT:TableAt w T)(hk:(tabL T).find? (fun p=>p.1==o)=some (o,meth f T))(hf:Makes f T (fieldsOf o)):
    Calls Tryz.prog 107 #[.map (some b),.int .i64 o] w (FieldsOut o w):=by
 have hl:=run_lookup hm o (meth f T) hk;have hen:=hf.enters;have HF:=hd' hf;have HT:=hd' hT;unfold meth at hl;clear hm hT hk hf;go_enter Tryz.func107,Tryz.ntmps107;go_wp2_with fail;refine(HF.out.call _ HT.out).mono ?_;rintro e w1 ⟨ao,n,cap,rfl,hfs,hb⟩
 go_wp2
 go_ret2;exact⟨_,_,_,rfl,hfs,hb⟩
theorem of_none(o:Int)(T:Value)(b:Nat)(w:World)(hm:MapIs w b (tabL T))(ho:B.isOp o=false):
    Calls Tryz.prog 107 #[.map (some b),.int .i64 o] w fun e w'=>e= .returned (.tuple #[.slice none 0 0,.bool false])∧w'=w:=by
 have hne:∀p∈tabL T,p.1≠o:=by
  unfold B.isOp at ho;simp at ho;intro p hp;simp[tabL]at hp
  rcases hp with rfl | rfl | rfl | rfl | rfl | rfl | rfl | rfl | rfl | rfl | rfl | rfl | rfl | rfl | rfl | rfl | rfl | rfl | rfl | rfl<;>simp<;>omega
 obtain⟨v,hl⟩:=run_missing hm o hne;clear hm hne ho;go_enter Tryz.func107,Tryz.ntmps107
 go_wp2
 go_ret2;exact⟨rfl,rfl⟩
theorem makes_none(T:Value):Makes 139 T []:=⟨enters_of Tryz.func139 (by kernel_rfl) rfl,fun w hT=>(none_any T w hT).mono fun _ _ ⟨ao,cap,he,hf,hb⟩=>⟨ao,_,cap,he,hf,hb⟩⟩
theorem makes_constant(T:Value):Makes 140 T [reg,.number]:=⟨enters_of Tryz.func140 (by kernel_rfl) rfl,fun w hT=>(constant_any T w hT).mono fun _ _ ⟨ao,cap,he,hf,hb⟩=>⟨ao,_,cap,he,hf,hb⟩⟩
theorem makes_both(T:Value):Makes 141 T [reg,other]:=⟨enters_of Tryz.func141 (by kernel_rfl) rfl,fun w hT=>(both_any T w hT).mono fun _ _ ⟨ao,cap,he,hf,hb⟩=>⟨ao,_,cap,he,hf,hb⟩⟩
theorem makes_shift(T:Value):Makes 142 T [reg,.small 2 0 63]:=⟨enters_of Tryz.func142 (by kernel_rfl) rfl,fun w hT=>(shiftM_any T w hT).mono fun _ _ ⟨ao,cap,he,hf,hb⟩=>⟨ao,_,cap,he,hf,hb⟩⟩
theorem makes_move(T:Value):Makes 143 T [reg,.small 1 0 7,.bytes]:=⟨enters_of Tryz.func143 (by kernel_rfl) rfl,fun w hT=>(moveM_any T w hT).mono fun _ _ ⟨ao,cap,he,hf,hb⟩=>⟨ao,_,cap,he,hf,hb⟩⟩
theorem makes_blend(T:Value):Makes 144 T [reg,.small 1 0 7,.bytes,.number]:=⟨enters_of Tryz.func144 (by kernel_rfl) rfl,fun w hT=>(blendM_any T w hT).mono fun _ _ ⟨ao,cap,he,hf,hb⟩=>⟨ao,_,cap,he,hf,hb⟩⟩
theorem makes_width(T:Value):Makes 145 T [reg,.small 2 1 64]:=⟨enters_of Tryz.func145 (by kernel_rfl) rfl,fun w hT=>(widthM_any T w hT).mono fun _ _ ⟨ao,cap,he,hf,hb⟩=>⟨ao,_,cap,he,hf,hb⟩⟩
theorem makes_hand(T:Value):Makes 146 T [reg,slot]:=⟨enters_of Tryz.func146 (by kernel_rfl) rfl,fun w hT=>(hand_any T w hT).mono fun _ _ ⟨ao,cap,he,hf,hb⟩=>⟨ao,_,cap,he,hf,hb⟩⟩
theorem makes_fits(T:Value):Makes 147 T [reg,slot,.small 2 1 64,.sign]:=⟨enters_of Tryz.func147 (by kernel_rfl) rfl,fun w hT=>(fitsM_any T w hT).mono fun _ _ ⟨ao,cap,he,hf,hb⟩=>⟨ao,_,cap,he,hf,hb⟩⟩
theorem makes_skip(T:Value):Makes 148 T [.skip]:=⟨enters_of Tryz.func148 (by kernel_rfl) rfl,fun w hT=>(skipM_any T w hT).mono fun _ _ ⟨ao,cap,he,hf,hb⟩=>⟨ao,_,cap,he,hf,hb⟩⟩
theorem makes_unless(T:Value):Makes 149 T [reg,.skip,.number]:=⟨enters_of Tryz.func149 (by kernel_rfl) rfl,fun w hT=>(unlessM_any T w hT).mono fun _ _ ⟨ao,cap,he,hf,hb⟩=>⟨ao,_,cap,he,hf,hb⟩⟩
theorem of_any(o:Int)(T:Value)(b:Nat)(w:World)(hm:MapIs w b (tabL T))(hT:TableAt w T)(ho:B.isOp o=true):
    Calls Tryz.prog 107 #[.map (some b),.int .i64 o] w (FieldsOut o w):=by
 rcases ops_cases ho with rfl | rfl | rfl | rfl | rfl | rfl | rfl | rfl | rfl | rfl | rfl | rfl | rfl | rfl | rfl | rfl | rfl | rfl | rfl | rfl
 ·exact of_via _ _ T b w hm hT rfl (makes_none T)
 ·exact of_via _ _ T b w hm hT rfl (makes_constant T)
 ·exact of_via _ _ T b w hm hT rfl (makes_both T)
 ·exact of_via _ _ T b w hm hT rfl (makes_both T)
 ·exact of_via _ _ T b w hm hT rfl (makes_both T)
 ·exact of_via _ _ T b w hm hT rfl (makes_both T)
 ·exact of_via _ _ T b w hm hT rfl (makes_shift T)
 ·exact of_via _ _ T b w hm hT rfl (makes_shift T)
 ·exact of_via _ _ T b w hm hT rfl (makes_constant T)
 ·exact of_via _ _ T b w hm hT rfl (makes_move T)
 ·exact of_via _ _ T b w hm hT rfl (makes_move T)
 ·exact of_via _ _ T b w hm hT rfl (makes_move T)
 ·exact of_via _ _ T b w hm hT rfl (makes_move T)
 ·exact of_via _ _ T b w hm hT rfl (makes_blend T)
 ·exact of_via _ _ T b w hm hT rfl (makes_width T)
 ·exact of_via _ _ T b w hm hT rfl (makes_hand T)
 ·exact of_via _ _ T b w hm hT rfl (makes_hand T)
 ·exact of_via _ _ T b w hm hT rfl (makes_fits T)
 ·exact of_via _ _ T b w hm hT rfl (makes_skip T)
 ·exact of_via _ _ T b w hm hT rfl (makes_unless T)
end Code
end Go.Proofs.YtljhklblbafjkaaGreatDoor
namespace Go.Proofs.YtljhklblbafjkaaGreatDoor
open Go.RowKit
namespace Code
attribute [local go_sem ↓] Go.wp_at_zero Go.wp_at_succ
theorem enc_len(fk:FK)(x:B.Ins)(hx:B.InU64 x.imm):(enc fk x).length≤10:=by
 unfold B.InU64 at hx
 cases fk with
 | small k lo hi=>simp[enc]
 | number=>exact sevens_len 10 _ (by omega) (by omega)
 | sign=>exact sevens_len 10 _ (by omega) (by omega)
 | skip=>exact sevens_len 10 _ (by omega) (by omega)
 | bytes=>simp[enc]
theorem encs_len(x:B.Ins)(hx:B.InU64 x.imm):∀fks:List FK,(encs fks x).length≤10*fks.length
 | []=>by simp[encs]
 | fk::r=>by
  have h1:=enc_len fk x hx;have h2:=encs_len x hx r
  show(enc fk x++encs r x).length≤_
  rw[List.length_append,List.length_cons];omega
theorem encs_append(a b:List FK)(x:B.Ins):encs (a++b) x=encs a x++encs b x:=by unfold encs;rw[List.flatMap_append]
theorem encs_take{fks:List FK}{i:Nat}{fk:FK}(h:fks[i]? =some fk)(x:B.Ins):encs (fks.take (i+1)) x=encs (fks.take i) x++enc fk x:=by
 rw[List.take_add_one,h,encs_append];simp[encs]
theorem gots_take{fks:List FK}{i:Nat}{fk:FK}(h:fks[i]? =some fk)(y x:B.Ins):gots (fks.take (i+1)) y x=got fk (gots (fks.take i) y x) y:=by
 rw[List.take_add_one,h];simp[gots,List.foldl_append]
theorem encs_at{fks:List FK}{i:Nat}{fk:FK}(h:fks[i]? =some fk)(x:B.Ins):∀j c,(enc fk x)[j]? =some c→(encs fks x)[(encs (fks.take i) x).length+j]? =some c:=by
 intro j c hc;have hi:=(List.getElem?_eq_some_iff.1 h).1;have e:fks=fks.take (i+1)++fks.drop (i+1):=(List.take_append_drop _ _).symm
 have e2:encs fks x=encs (fks.take i) x++(enc fk x++encs (fks.drop (i+1)) x):=by
  rw[←List.append_assoc,←encs_take h,←encs_append,←e]
 rw[e2,List.getElem?_append_right (by omega)];have hj:=(List.getElem?_eq_some_iff.1 hc).1;rw[show(encs (fks.take i) x).length+j-(encs (fks.take i) x).length=j by omega,List.getElem?_append_left hj];exact hc
theorem fieldsOf_len(o:Int):(fieldsOf o).length≤4:=by
 unfold fieldsOf
 repeat' split
 all_goals simp
theorem fieldsOf_bytes(o:Int)(x:B.Ins){i:Nat}(h:(fieldsOf o)[i]? =some .bytes)(hok:∀fk∈(fieldsOf o).take i,okB fk x=true):0≤x.b∧x.b≤7:=by
 have key:(FK.small 1 0 7)∈(fieldsOf o).take i:=by
  unfold fieldsOf at h⊢
  revert h
  repeat' split
  all_goals
   intro h
   rcases i with _ | _ | _ | _ | i<;>simp[reg,other,slot]at h⊢
 have:=hok _ key;simpa[okB,inB,get]using this
theorem wr_new(w:World)(x:B.Ins):WrAt (w.alloc (.cells #[.slice none 0 0,.int .i64 x.op,.int .i64 x.a,.int .i64 x.b,.int .i64 x.n,.int .u64 x.imm] 235)) w.heap.size w.heap.size [] x:=
 ⟨⟨none,0,0,heap_alloc_new w _,rfl,World.ownsRow_nil _ _ _ _⟩,lR' _⟩
theorem FieldAt.fns{w:World}{fk:FK}{v0 v1 v2 v3 v4:Value}(h:FieldAt w fk v0 v1 v2 v3 v4):
    (∃f c,v0= .func (.func f) #[] c)∧(∃f c,v1= .func (.func f) #[] c)∧(∃f c,v2= .func (.func f) #[] c)∧(∃f c,v3= .func (.func f) #[] c)∧∃f c,v4= .func (.func f) #[] c:=by
 cases fk with
 | small k lo hi=>obtain⟨_,_,_,_,_,_,rfl,rfl,rfl,rfl,rfl⟩:=h;exact⟨⟨_,_,rfl⟩,⟨_,_,rfl⟩,⟨_,_,rfl⟩,⟨_,_,rfl⟩,_,_,rfl⟩
 | number=>obtain⟨rfl,rfl,rfl,rfl,rfl⟩:=h;exact⟨⟨_,_,rfl⟩,⟨_,_,rfl⟩,⟨_,_,rfl⟩,⟨_,_,rfl⟩,_,_,rfl⟩
 | sign=>obtain⟨rfl,rfl,rfl,rfl,rfl⟩:=h;exact⟨⟨_,_,rfl⟩,⟨_,_,rfl⟩,⟨_,_,rfl⟩,⟨_,_,rfl⟩,_,_,rfl⟩
 | skip=>obtain⟨_,_,_,_,_,rfl,rfl,rfl,rfl,rfl⟩:=h;exact⟨⟨_,_,rfl⟩,⟨_,_,rfl⟩,⟨_,_,rfl⟩,⟨_,_,rfl⟩,_,_,rfl⟩
 | bytes=>obtain⟨_,_,_,_,_,rfl,rfl,rfl,rfl,rfl⟩:=h;exact⟨⟨_,_,rfl⟩,⟨_,_,rfl⟩,⟨_,_,rfl⟩,⟨_,_,rfl⟩,_,_,rfl⟩
def RightOut(x:B.Ins)(w:World)(e:Ending)(w':World):Prop:=e= .returned (.bool x.right)∧Below w.heap.size w w'
theorem wr_below{w w':World}{base Bw:Nat}{bs:List Nat}{x:B.Ins}(h:WrAt w base Bw bs x)(hb:Below w.heap.size w w'):WrAt w' base Bw bs x:=by
 obtain⟨⟨ao,n,cap,h1,h2,h3⟩,hlo⟩:=h;exact⟨⟨ao,n,cap,(hb.block _ (lt_of_block h1)).trans h1,h2,h3.kept (row:=none) ⟨hb.os,hb.tape,hb.output,hb.size,fun k hk _=>hb.block k hk⟩ (by cases ao<;>simp[Value.ownBlock])⟩,hlo⟩
theorem rd_below{w w':World}{base Rb:Nat}{bytes:List Nat}{p:Nat}{x:B.Ins}(h:RdAt w base Rb bytes p x)(hb:Below w.heap.size w w'):RdAt w' base Rb bytes p x:=by
 obtain⟨⟨ao,n,cap,h1,h2,h3⟩,hlo⟩:=h;exact⟨⟨ao,n,cap,(hb.block _ (lt_of_block h1)).trans h1,h2,h3.kept (row:=none) ⟨hb.os,hb.tape,hb.output,hb.size,fun k hk _=>hb.block k hk⟩ (by cases ao<;>simp[Value.ownBlock])⟩,hlo⟩
theorem right_not(x:B.Ins)(h:B.isOp x.op=false):x.right=false:=by
 unfold B.Ins.right;rw[h];rfl
theorem right_bad{x:B.Ins}(hw:x.Wf)(h:B.isOp x.op=true){fk:FK}(hm:fk∈fieldsOf x.op)(hok:okB fk x=false):x.right=false:=by
 rw[right_law x hw h,Bool.and_eq_false_iff]
 left
 rw[List.all_eq_false];exact⟨fk,hm,by simp[hok]⟩
set_option maxRecDepth 100000 in
set_option maxHeartbeats 3200000 in
theorem right_any(x:B.Ins)(T:Value)(b:Nat)(w:World)(hx:x.Wf)(hm:MapIs w b (tabL T))(hT:TableAt w T)(_hbl:b<w.heap.size):
    Calls Tryz.prog 106 #[.map (some b),valI x] w (RightOut x w):=by
 have hm1:MapIs (w.alloc (.cells #[.int .i64 x.op,.int .i64 x.a,.int .i64 x.b,.int .i64 x.n,.int .u64 x.imm] 74)) b (tabL T):=by
  obtain⟨es,clock,h1,h2⟩:=hm;exact⟨es,clock,blk_alloc h1,h2⟩
 have hT1:=hd' (hT.below ((Below.refl _ _).alloc (lR' _) (.cells #[.int .i64 x.op,.int .i64 x.a,.int .i64 x.b,.int .i64 x.n,.int .u64 x.imm] 74)) (lR' _));have HM:=hd' hm1;have HX:=hd' hx;clear hm1 hT hm hx
 by_cases ho:B.isOp x.op=true
 ·have HO:=hd' ho
  clear ho;unfold valI;go_enter Tryz.func106,Tryz.ntmps106;go_wp2_with (go_at_call 107;refine(of_any _ T b _ HM.out hT1.out HO.out).mono ?_;rintro e w1 ⟨ao,n,cap,rfl,hfs,hb1⟩;have hr:=res_cell hb1 (by simp);have hs1:=hb1.size)
  have hsX:w.heap.size<w1.heap.size:=by simp at hs1;omega
  have hn:=hfs.len;have hn4:=fieldsOf_len x.op;have HW1:=hd' (((Below.refl w.heap.size w).alloc (lR' _) _).trans (hb1.mono (by simp)));have HFS:=hd' hfs;have HB1:=hd' hb1;have HR:=hd' hr;have HN:=hd' hn
  have hn':n≤4:=by omega
  clear hfs hb1 hr hn hn4
  go_loopw [27] (fun i wr=>∃k:Nat,i= .int .i64 k∧k≤n∧WrAt wr w1.heap.size w1.heap.size (encs ((fieldsOf x.op).take k) x) x∧(∀fk∈(fieldsOf x.op).take k,okB fk x=true)∧Below w1.heap.size w1 wr)
   (fun i _=>n-(intOf i).toNat)
  case atStart=>exact⟨0,rfl,Nat.zero_le _,wr_new w1 x,by simp,(Below.refl _ _).alloc (lR' _) _⟩
  case round=>
   obtain⟨k,rfl,hk,hwr,hoks,hb⟩:=hrel;have hsz:=hb.size
   by_cases hlt:k<n
   ·have hfk:(fieldsOf x.op)[k]? =some ((fieldsOf x.op)[k]'(by have:=HN.out;omega)):=List.getElem?_eq_getElem _
    generalize(fieldsOf x.op)[k]'(by have:=HN.out;omega)=fk at hfk;obtain⟨g,v0,v1,v2,v3,v4,rfl,hg,c0,c1,c2,c3,c4,hF⟩:=(HFS.out.below hb (lR' _)).at_ k fk hfk;obtain⟨_,_,⟨f2,caps2,rfl⟩,⟨f3,caps3,rfl⟩,f4,caps4,rfl⟩:=hF.fns;obtain⟨f0,caps0,⟨rfl,hen0⟩,hcall0⟩:=ok_call hF;obtain⟨f1,caps1,⟨rfl,hen1⟩,hcall1⟩:=write_call hF
    have hrr:∀j,wr.cell? ⟨w.heap.size,j,none⟩=(#[.int .i64 x.op,.int .i64 x.a,.int .i64 x.b,.int .i64 x.n,.int .u64 x.imm]:Array Value)[j]? :=fun j=>(hb.cell (p:=⟨w.heap.size,j,none⟩) hsX).trans (HR.out j)
    have hXw:w.heap.size<wr.heap.size:=by omega
    have HCA:=hd' hcall0;have HCB:=hd' hcall1;have HFK:=hd' hfk;have HF:=hd' hF;have HW:=hd' hwr;have HOK:=hd' hoks;have HB:=hd' hb;clear hcall0 hcall1 hfk hF hwr hoks hb;go_wp2_with fail;refine(HCA.out wr.heap.size _ x _ ((Below.refl _ _).alloc (lR' _) _) (lR' _) (fun e=>fieldsOf_bytes x.op x (by rw[HFK.out,e]) HOK.out) rfl).mono ?_;rintro e w2 ⟨rfl,hb2⟩;have hb2w:Below wr.heap.size wr w2:=((Below.refl _ _).alloc (lR' _) _).trans (hb2.mono (by simp));have hs2:=hb2w.size;have hrf:=res_cell hb2 (by simp);have HB2:=hd' hb2w;have hW2:=hd' (wr_below HW.out hb2w);clear hb2 hb2w
    by_cases hok:okB fk x=true
    ·go_wp2_with fail
     refine(HCB.out wr.heap.size _ x w1.heap.size w1.heap.size (encs ((fieldsOf x.op).take k) x) _ HB2.out (lR' _) HX.out.imm ?_ hW2.out (by omega) rfl).mono ?_
     ·have h1:=encs_len x HX.out.imm ((fieldsOf x.op).take k)
      have h2:=fieldsOf_len x.op;rw[List.length_take]at h1;omega
     rintro e w3 ⟨rfl,hw3,hb3⟩;have HW3:=hd' hw3;have HB3:=hd' hb3;have hs3:=hb3.size;have HOKF:=hd' hok;clear hw3 hb3 hok;go_wp2_with fail;go_roundw
     case rel=>
      refine⟨k+1,by go_num,by omega,by rw[encs_take HFK.out];exact HW3.out, ?_,(HB.out.trans (HB2.out.mono (by omega))).trans HB3.out⟩;rw[List.take_add_one,HFK.out];intro fk' hm;rcases List.mem_append.1 hm with h | h
      ·exact HOK.out fk' h
      ·simp at h;subst h;exact HOKF.out
     case measure=>simp[intOf];omega
    ·have hok':okB fk x=false:=by simpa using hok
     clear hok;go_wp2_with fail;go_ret;refine⟨ret_bool ?_, ?_⟩
     ·exact(right_bad HX.out HO.out (List.mem_of_getElem? HFK.out) hok').symm
     ·exact(HW1.out.trans (HB.out.mono (by omega))).trans (HB2.out.mono (by omega))
   ·obtain rfl:k=n:=by omega
    have HE:Hid ((fieldsOf x.op).take k=fieldsOf x.op):=List.take_of_length_le (by have:=HN.out;omega);rw[HE.out]at hwr hoks;have HOK:=hd' hoks;have HB:=hd' hb;obtain⟨⟨ab,nb,cb,hblk,hnb,hown⟩,hlo⟩:=hwr;have hbw:=lt_of_block hblk;have hw0:=cell_of_row wr w1.heap.size 0 _ _ _ hblk;simp only[List.getElem?_toArray,List.getElem?_cons_zero]at hw0
    have hrr:∀j,wr.cell? ⟨w.heap.size,j,none⟩=(#[.int .i64 x.op,.int .i64 x.a,.int .i64 x.b,.int .i64 x.n,.int .u64 x.imm]:Array Value)[j]? :=fun j=>(hb.cell (p:=⟨w.heap.size,j,none⟩) hsX).trans (HR.out j)
    have hXw:w.heap.size<wr.heap.size:=by omega
    have HOWN:=hd' hown;have HNB:=hd' hnb;clear hoks hb hblk hnb hown;go_wp2_with fail
    go_region_held3 (fun w'=>w'.cell? ⟨w1.heap.size,0,none⟩=some (.slice ab nb cb)∧w'.cell? ⟨w.heap.size,0,none⟩=some (.int .i64 x.op)) (go_keep) (fail)
    go_wp2_with fail;obtain⟨wo,rfl⟩:∃wo:World,wo=wr:=⟨_,rfl⟩
    go_loopw [52] (fun i wr=>∃j:Nat,i= .int .i64 j∧j≤k∧RdAt wr w1.heap.size wo.heap.size (encs (fieldsOf x.op) x) (encs ((fieldsOf x.op).take j) x).length (gots ((fieldsOf x.op).take j) x ⟨x.op,0,0,0,0⟩)∧Below w1.heap.size w1 wr)
     (fun i _=>k-(intOf i).toNat)
    case atStart=>
     refine⟨0,rfl,Nat.zero_le _,⟨⟨ab,nb,cb, ?_,HNB.out,(HOWN.out.alloc _).drew⟩,hsz⟩, ?_⟩
     ·exact heap_alloc_new wo _
     ·exact(HB.out.alloc hsz _).drew
    case round=>
     obtain⟨j,rfl,hj,hrd,hb4⟩:=hrel;have hs4:=hb4.size
     by_cases hlt:j<k
     ·have hfk:(fieldsOf x.op)[j]? =some ((fieldsOf x.op)[j]'(by have:=HN.out;omega)):=List.getElem?_eq_getElem _
      generalize(fieldsOf x.op)[j]'(by have:=HN.out;omega)=fk at hfk;obtain⟨g,v0,v1,v2,v3,v4,rfl,hg,d0,d1,d2,d3,d4,hF⟩:=HFS.out.at_ j fk hfk;have c0:=(hb4.cell (p:=⟨g,_,none⟩) hg).trans d0;have c1:=(hb4.cell (p:=⟨g,_,none⟩) hg).trans d1;have c2:=(hb4.cell (p:=⟨g,_,none⟩) hg).trans d2;have c3:=(hb4.cell (p:=⟨g,_,none⟩) hg).trans d3;have c4:=(hb4.cell (p:=⟨g,_,none⟩) hg).trans d4
      have hgw:g<wr.heap.size:=by omega
      clear d0 d1 d2 d3 d4;obtain⟨⟨f0,caps0,rfl⟩,⟨f1,caps1,rfl⟩,_,⟨f3,caps3,rfl⟩,f4,caps4,rfl⟩:=hF.fns;obtain⟨f2,caps2,⟨rfl,hen2⟩,hcall2⟩:=read_call hF;have HCA:=hd' hcall2;have HFK:=hd' hfk;have HRD:=hd' (rd_below hrd ((Below.refl _ _).alloc (lR' _) (.cells #[.func (.func f0) #[] caps0,.func (.func f1) #[] caps1,.func (.func f2) #[] caps2,.func (.func f3) #[] caps3,.func (.func f4) #[] caps4] 194)));have HB4:=hd' hb4;clear hcall2 hfk hF hrd hb4;go_wp2_with fail;refine(HCA.out w1.heap.size _ _ x _ w1.heap.size _ _ _ (HB4.out.alloc hs4 _) (lR' _) (lR' _) HX.out.imm (HOK.out fk (List.mem_of_getElem? HFK.out)) ?hlen HRD.out (encs_at HFK.out x) rfl).mono ?_
      case hlen=>
       have h1:=encs_len x HX.out.imm (fieldsOf x.op);have h2:=fieldsOf_len x.op;omega
      rintro e w5 ⟨rfl,hr5,hb5⟩;have HR5:=hd' hr5;have HB5:=hd' ((HB4.out.alloc hs4 _).trans hb5);clear hr5 hb5;go_wp2_with fail;go_roundw
      case rel=>exact⟨j+1,by go_num,by omega,by rw[encs_take HFK.out,gots_take HFK.out,List.length_append];exact HR5.out,HB5.out⟩
      case measure=>simp[intOf];omega
     ·obtain rfl:j=k:=by omega
      rw[HE.out]at hrd;obtain⟨⟨ar,nr,cr,hrk,hnr,hor⟩,hlo2⟩:=hrd;have hr2:=cell_of_row wr wo.heap.size 2 _ _ _ hrk;have hr3:=cell_of_row wr wo.heap.size 3 _ _ _ hrk;have hr4:=cell_of_row wr wo.heap.size 4 _ _ _ hrk;have hr5:=cell_of_row wr wo.heap.size 5 _ _ _ hrk;have hr6:=cell_of_row wr wo.heap.size 6 _ _ _ hrk;simp only[rdCells,List.getElem?_toArray,List.getElem?_cons_zero,List.getElem?_cons_succ]at hr2 hr3 hr4 hr5 hr6
      have hrr4:∀j,wr.cell? ⟨w.heap.size,j,none⟩=(#[.int .i64 x.op,.int .i64 x.a,.int .i64 x.b,.int .i64 x.n,.int .u64 x.imm]:Array Value)[j]? :=fun j=>(hb4.cell (p:=⟨w.heap.size,j,none⟩) hsX).trans (HR.out j)
      have HB4:=hd' hb4;have hrl:=right_law x HX.out HO.out;rw[List.all_eq_true.2 HOK.out,Bool.true_and]at hrl;have HRL:=hd' hrl;generalize gots (fieldsOf x.op) x ⟨x.op,0,0,0,0⟩=y at*;clear hrk hnr hor hb4 hrl;obtain⟨yo,ya,yb,yn,ym⟩:=y;simp only at hr2 hr3 hr4 hr5 hr6
      by_cases q0:yo=x.op
      ·subst q0
       by_cases q1:ya=x.a
       ·subst q1
        by_cases q2:yb=x.b
        ·subst q2
         by_cases q3:yn=x.n
         ·subst q3
          by_cases q4:ym=x.imm
          ·subst q4
           go_wp2_with fail
           go_quiet (fail)
           go_wp2_with fail;go_ret;exact⟨ret_bool (by rw[HRL.out];simp),belowN (HW1.out.trans (HB4.out.mono (by omega))) _⟩
          ·have qd:(ym==x.imm)=false:=by simpa using q4
           have QN:=hd' q4;clear q4;go_wp2_with fail
           go_quiet (fail)
           go_wp2_with fail;go_ret;refine⟨ret_bool ?_,belowN (HW1.out.trans (HB4.out.mono (by omega))) _⟩;rw[HRL.out];have:=QN.out
           symm
           rw[decide_eq_false_iff_not];intro h;exact this (by rw[←h])
         ·have qd:(yn==x.n)=false:=by simpa using q3
          have QN:=hd' q3;clear q3;go_wp2_with fail
          go_quiet (fail)
          go_wp2_with fail;go_ret;refine⟨ret_bool ?_,belowN (HW1.out.trans (HB4.out.mono (by omega))) _⟩;rw[HRL.out];have:=QN.out
          symm
          rw[decide_eq_false_iff_not];intro h;exact this (by rw[←h])
        ·have qd:(yb==x.b)=false:=by simpa using q2
         have QN:=hd' q2;clear q2;go_wp2_with fail
         go_quiet (fail)
         go_wp2_with fail;go_ret;refine⟨ret_bool ?_,belowN (HW1.out.trans (HB4.out.mono (by omega))) _⟩;rw[HRL.out];have:=QN.out
         symm
         rw[decide_eq_false_iff_not];intro h;exact this (by rw[←h])
       ·have qd:(ya==x.a)=false:=by simpa using q1
        have QN:=hd' q1;clear q1;go_wp2_with fail
        go_quiet (fail)
        go_wp2_with fail;go_ret;refine⟨ret_bool ?_,belowN (HW1.out.trans (HB4.out.mono (by omega))) _⟩;rw[HRL.out];have:=QN.out
        symm
        rw[decide_eq_false_iff_not];intro h;exact this (by rw[←h])
      ·have qd:(yo==x.op)=false:=by simpa using q0
       have QN:=hd' q0;clear q0;go_wp2_with fail
       go_quiet (fail)
       go_wp2_with fail;go_ret;refine⟨ret_bool ?_,belowN (HW1.out.trans (HB4.out.mono (by omega))) _⟩;rw[HRL.out];have:=QN.out
       symm
       rw[decide_eq_false_iff_not];intro h;exact this (by rw[←h])
 ·have ho':B.isOp x.op=false:=by simpa using ho
  clear ho;have HO:=hd' ho';clear ho';unfold valI;go_enter Tryz.func106,Tryz.ntmps106;go_wp2_with (go_at_call 107;refine(of_none _ T b _ HM.out HO.out).mono ?_;rintro e w1 ⟨rfl,rfl⟩);go_ret;exact⟨ret_bool (right_not x HO.out).symm,(Below.refl _ _).alloc (lR' _) _⟩
end Code
end Go.Proofs.YtljhklblbafjkaaGreatDoor
