/- Package lower: lines that grow; a shift; a flag. -/
import Derived.Test.YtljhklblbafjkaaGreatDoorLwO
import Derived.Test.YtljhklblbafjkaaGreatDoorMoreQ
import Derived.Deep.DeepAppendRoom
import Derived.ArgAppend
open Go.Lib renaming hid→hd'
open Nat renaming le_refl→lR'
namespace Go.Proofs.YtljhklblbafjkaaGreatDoor
open Go.RowKit
namespace Code
attribute [local go_sem ↓] Go.wp_at_zero Go.wp_at_succ
theorem OwnP.form{w:World}{base n cap:Nat}{ao:Option Addr}{qs:List B.Ins}(h:OwnP w base ao n cap qs):(ao=none∧n=0∧cap=0)∨∃g,ao=some ⟨g,0,none⟩∧base≤g∧g<w.heap.size:=by
 rcases h.own.2 with⟨h0,h1⟩ | ⟨g,c,cur,e,hb,hh,h3⟩
 ·injection h0 with e1 e2 e3
  exact .inl ⟨e1,h1,e3⟩
 ·have hh2:=lt_of_block hh
  injection e with e _ _;exact .inr ⟨g,e,hb,hh2⟩
theorem app_keep{ops:Array Oper}{rest:List Oper}{o:Oper}{a:Act}{Q:Exit→Act→World→Prop}{w:World}(hgd:o.guard=none)(s x:Operand)
    (ho:o.op= .call { callee:=.builtin .append,args:= #[s,x],argTypes:= #[30,30]})
    (base:Nat) {ao:Option Addr} {n cap:Nat} {qs:List B.Ins} (hs:a.eval s= .slice ao n cap) (hown:OwnP w base ao n cap qs)
    {a2:Option Addr} {m c2:Nat} {ps:List B.Ins} (hx:a.eval x= .slice a2 m c2) (hp:ProgAt w a2 m ps) (hnil:a2=none→c2=0) (hbytes:(n+m)*40≤140737488355328) (hbase:base≤w.heap.size)
    (h:∀ao' cap' w',OwnP w' base ao' (n+m) cap' (qs++ps)→(∀b,b<w.heap.size→ao≠some ⟨b,0,none⟩→w'.heap[b]? =w.heap[b]?)→(ao'=ao∨∃g,ao'=some ⟨g,0,none⟩∧w.heap.size≤g)→Below base w w'→
     wpList Tryz.prog ops Q rest (a.put o.dst (.slice ao' (n+m) cap')) w'):
    wpList Tryz.prog ops Q (o::rest) a w:=by
 obtain⟨i,hi,hz0,hz1,hz2⟩:=info_parts info74
 have hlen:n+m=(qs++ps).length:=by rw[List.length_append,hown.len,hp.len]
 cases a2 with
 | none=>
  obtain⟨rfl,rfl⟩:=hp.none_nil;obtain rfl:=hnil rfl;refine wpList_append_own_none hgd s x 30 ho base 74 i 5 Tryz.underlying30 hi _ n (cellsP qs) hs hown.own hx ?_;exact h ao cap w (by rw[List.append_nil];exact hown) (fun _ _ _=>rfl) (.inl rfl) (Below.refl _ _)
 | some ad=>
  by_cases hroom:n+m≤cap
  ·rcases OwnP.form hown with⟨rfl,rfl,rfl⟩ | ⟨g,rfl,hgb,hgw⟩
   ·have hm:m=0:=by omega
    have hps:ps=[]:=List.eq_nil_of_length_eq_zero (by rw[←hp.len,hm]);subst hm hps;refine wpList_append_own _ hgd s x 30 ho base 74 i _ 5 40 Tryz.underlying30 hi hz0 hz1 hz2 rfl (by decide) _ 0 (cellsP qs) hs hown.own ad 0 c2 (cellsP []) hx rfl hp.news (cellsP_ones []) (by simp only[maxLen];omega) hbytes hbase ?_;intro v' w' hown' hg hv;have hv0:=hv.2 ⟨rfl,rfl⟩;subst hv0;refine h none 0 w' ⟨hlen,by rw[cellsP_append];exact hown'⟩ (fun b hb _=>hg.block b hb (by simp[Value.ownBlock])) (.inl rfl) ((Below.refl base w).grown hg hbase (fun k hk=>by simp[Value.ownBlock]at hk))
   ·refine wpList_append_own_spare _ hgd s x 30 ho base 74 i 5 Tryz.underlying30 hi hz1 g n cap (cellsP qs) hs hown.own ad m c2 (cellsP ps) hx (by rw[cellsP_length,hp.len]) hp.news (cellsP_ones ps) hroom ?_
    intro w' hown' hg;refine h _ _ w' ⟨hlen,by rw[cellsP_append];exact hown'⟩ (fun b hb hne=> ?_) (.inl rfl) ((Below.refl base w).grown hg hbase (fun k hk=>by have:=Option.some.inj hk;omega));exact hg.block b hb (fun e=>hne (by rw[Option.some.inj e]))
  ·refine wpList_append_grows _ hgd s x 30 ho 74 i _ 5 40 Tryz.underlying30 hi hz0 hz1 hz2 rfl (by decide) ao n cap (cellsP qs) hs (fun e=> ?_) (by rw[cellsP_length,hown.len]) (fun b e j u hu=> ?_) ad m c2 (cellsP ps) hx (by rw[cellsP_length,hp.len]) hp.news (cellsP_ones ps) (by omega) (by simp only[maxLen];omega) hbytes ?_
   ·rcases OwnP.form hown with⟨_,e2,e3⟩ | ⟨g,e1,_⟩
    ·exact⟨e2,e3⟩
    ·rw[e]at e1;cases e1
   ·rcases OwnP.form hown with⟨e1,_⟩ | ⟨g,e1,_⟩
    ·rw[e]at e1;cases e1
    ·rw[e]at e1
     have e4:=Option.some.inj e1;subst e4;have:=hown.own;rw[e]at this;exact this.cells (g:=g) rfl j u hu
   ·intro v' w' hown' hg
    rcases hown'.2 with⟨_,hn⟩ | ⟨g,cap',cur,rfl,hbg,rest'⟩
    ·omega
    ·refine h _ _ w' ⟨hlen, ?_⟩ (fun b hb _=>hg.block b hb (by simp)) (.inr ⟨g,rfl,hbg⟩) ((Below.refl base w).grown hg hbase (fun k hk=>by cases hk))
     rw[cellsP_append];exact⟨hown'.1,.inr ⟨g,cap',cur,rfl,Nat.le_trans hbase hbg,rest'⟩⟩
structure LnAt(w:World)(L:Nat)(ao:Option Addr)(n cap:Nat)(qs:List B.Ins):Prop where
 cell:w.cell? ⟨L,0,none⟩=some (.slice ao n cap)
 free:w.frozen? ⟨L,0,none⟩=false
 own:OwnP w (L+1) ao n cap qs
 lt:L<w.heap.size
def putV(L:Nat):Value:=.func (.func 54) #[] #[.pointer (some ⟨L,0,none⟩)]
def LinesOut(w:World)(e:Ending)(w':World):Prop:=e= .returned (.tuple #[.pointer (some ⟨w.heap.size,0,none⟩),putV w.heap.size])∧LnAt w' w.heap.size none 0 0 []∧Below w.heap.size w w'
theorem lines_any(w:World):Calls Tryz.prog 23 #[] w (LinesOut w):=by
 have hb:Below w.heap.size w (w.alloc (.cells #[.slice none 0 0] 30)):=(Below.refl _ _).alloc (lR' _) _
 have hl:LnAt (w.alloc (.cells #[.slice none 0 0] 30)) w.heap.size none 0 0 []:=
  ⟨by rw[cell_of_row _ _ _ _ _ _ (heap_alloc_new w _)];rfl,frozen_blk (heap_alloc_new w _),OwnP.nil _ _,by simp⟩
 have HB:=hd' hb;have HL:=hd' hl;clear hb hl;go_enter Tryz.func23,Tryz.ntmps23;go_wp2_with fail;go_ret2;exact⟨rfl,HL.out,HB.out⟩
def PutOut(L:Nat)(ao:Option Addr)(n:Nat)(qs:List B.Ins)(w:World)(e:Ending)(w':World):Prop:=∃ao' cap',e= .returned (.tuple #[])∧LnAt w' L ao' n cap' qs∧
 (∀b,b<w.heap.size→b≠L→ao≠some ⟨b,0,none⟩→w'.heap[b]? =w.heap[b]?)∧(ao'=ao∨∃g,ao'=some ⟨g,0,none⟩∧w.heap.size≤g)∧Below L w w'
set_option maxRecDepth 100000 in
set_option maxHeartbeats 3200000 in
theorem put_any(L:Nat)(ao:Option Addr)(n cap:Nat)(qs:List B.Ins)(xa:Option Addr)(xn xc:Nat)(xs:List B.Ins)(w:World)(h:LnAt w L ao n cap qs)(hx:ProgAt w xa xn xs)(hnil:xa=none→xc=0)(hbytes:(n+xn)*40≤140737488355328):
    Calls Tryz.prog 54 #[.slice xa xn xc,.pointer (some ⟨L,0,none⟩)] w (PutOut L ao (n+xn) (qs++xs) w):=by
 have h1:=h.cell;have h2:=h.free;have hlt:=h.lt;have HO:=hd' h.own;have HX:=hd' hx;have HNIL:=hd' hnil;clear h hx hnil;go_enter Tryz.func54,Tryz.ntmps54;go_wp2_with (at_builtin;refine app_keep (by rfl) _ _ rfl (L+1) rfl HO.out (by rfl) HX.out HNIL.out hbytes hlt ?_;intro ao' cap' w' hown' hkeep hwh hb;have k1:w'.cell? ⟨L,0,none⟩=some (.slice ao n cap):=(hb.cell (p:=⟨L,0,none⟩) (Nat.lt_succ_self L)).trans h1;have k2:w'.frozen? ⟨L,0,none⟩=false:=by(have:=hb.block L (Nat.lt_succ_self L);simp only[World.frozen?,this];simpa only[World.frozen?]using h2))
 go_end0
 have hfar:∀g,ao'=some ⟨g,0,none⟩→L<g:=fun g e=>by
  rcases OwnP.form hown' with⟨e0,_⟩ | ⟨g',e1,hg',_⟩
  ·rw[e0]at e;cases e
  ·rw[e1]at e;cases e;exact hg'
 refine⟨ao',cap',rfl,⟨World.cell?_setCell_same' _ _ _ (by rw[k1];rfl),by rw[World.frozen?_setCell];exact k2, ?_,by have:=hb.size;simp;omega⟩,fun b hb' hL hne=> ?_,hwh, ?_⟩
 ·refine⟨hown'.len, ?_⟩
  refine ownsRow_setCell_other hown'.own ?_ _
  cases ao' with
  | none=>simp[Value.ownBlock]
  | some ad=>
   rcases OwnP.form hown' with⟨e0,_⟩ | ⟨g',e1,hg',_⟩
   ·cases e0
   ·cases e1
    simp[Value.ownBlock];omega
 ·exact(blk_other _ hL).trans (hkeep b hb' hne)
 ·exact(hb.mono (Nat.le_succ L)).setCell (lR' L) _
end Code
end Go.Proofs.YtljhklblbafjkaaGreatDoor
namespace Go.Proofs.YtljhklblbafjkaaGreatDoor
open Go.RowKit
namespace Code
attribute [local go_sem ↓] Go.wp_at_zero Go.wp_at_succ
def LinsOut(ps:List B.Ins)(w:World)(e:Ending)(w':World):Prop:=∃a c,e= .returned (.slice a ps.length c)∧ProgAt w' a ps.length ps∧(a=none→c=0)∧Below w.heap.size w w'
theorem shift_any(r:Int)(f t:Nat)(hf:f≤1000)(ht:t≤1000)(w:World):Calls Tryz.prog 56 #[.int .i64 r,.int .i64 (f:Int),.int .i64 (t:Int)] w (LinsOut (B.shiftI r f t) w):=by
 unfold B.shiftI
 by_cases h1:t<f
 ·rw[if_pos h1]
  have e1:((t:Int)<f)=True:=by simp;omega
  have e2:IntKind.i64.wrap ((f:Int)-t)=(f:Int)-t:=IntWalk.i64_in _ (by omega);have hp:=progAt_new [⟨7,r,0,(f:Int)-t,0⟩] #[.int .i64 7,.int .i64 r,.int .i64 0,.int .i64 ((f:Int)-t),.int .u64 0] 1 74 w rfl rfl;have hb:Below w.heap.size w (w.alloc (.cells #[.int .i64 7,.int .i64 r,.int .i64 0,.int .i64 ((f:Int)-t),.int .u64 0] 74)):=(Below.refl _ _).alloc (lR' _) _;have HP:=hd' hp;have HB:=hd' hb;clear h1 hp hb;go_enter Tryz.func56,Tryz.ntmps56;go_wp2_with fail;go_ret;exact⟨_,_,rfl,HP.out,(fun h=>by cases h),HB.out⟩
 ·rw[if_neg h1]
  have e1:((t:Int)<f)=False:=by simp;omega
  by_cases h2:f<t
  ·rw[if_pos h2]
   have e3:((f:Int)<t)=True:=by simp;omega
   have e2:IntKind.i64.wrap ((t:Int)-f)=(t:Int)-f:=IntWalk.i64_in _ (by omega);have hp:=progAt_new [⟨6,r,0,(t:Int)-f,0⟩] #[.int .i64 6,.int .i64 r,.int .i64 0,.int .i64 ((t:Int)-f),.int .u64 0] 1 74 w rfl rfl;have hb:Below w.heap.size w (w.alloc (.cells #[.int .i64 6,.int .i64 r,.int .i64 0,.int .i64 ((t:Int)-f),.int .u64 0] 74)):=(Below.refl _ _).alloc (lR' _) _;have HP:=hd' hp;have HB:=hd' hb;clear h1 h2 hp hb;go_enter Tryz.func56,Tryz.ntmps56;go_wp2_with fail;go_ret;exact⟨_,_,rfl,HP.out,(fun h=>by cases h),HB.out⟩
  ·rw[if_neg h2]
   have e3:((f:Int)<t)=False:=by simp;omega
   clear h1 h2;go_enter Tryz.func56,Tryz.ntmps56;go_wp2_with fail;go_ret;exact⟨none,0,rfl,progAt_nil w,fun _=>rfl,Below.refl _ _⟩
theorem flag_any(b:Bool)(w:World):Calls Tryz.prog 66 #[.bool b] w fun e w'=>e= .returned (.int .u64 (if b=true then 1 else 0))∧w'=w:=by
 cases b with
 | true=>
  go_enter Tryz.func66,Tryz.ntmps66;go_wp2_with fail;go_ret;exact⟨rfl,rfl⟩
 | false=>
  go_enter Tryz.func66,Tryz.ntmps66;go_wp2_with fail;go_ret;exact⟨rfl,rfl⟩
theorem mux_at{l:List B.Sig}{k:Nat}{s:B.Sig}(hs:l[k]? =some s)(hr:s.role=1)(h:∀i t,i<k→l[i]? =some t→t.role≠1):B.muxZ l=(k:Int):=by
 have hlt:=(List.getElem?_eq_some_iff.1 hs).1
 have:B.muxI l=some k:=by
  rw[B.muxI_def,List.find?_range_eq_some];refine⟨?_,List.mem_range.2 hlt,fun j hj=> ?_⟩
  ·unfold B.isMuxAt;rw[hs];simp[hr]
  ·unfold B.isMuxAt
   have hg:=List.getElem?_eq_getElem (l:=l) (i:=j) (by omega);rw[hg];simpa using h j _ hj hg
 unfold B.muxZ;rw[this]
theorem mux_no{l:List B.Sig}(h:∀i t,i<l.length→l[i]? =some t→t.role≠1):B.muxZ l= -1:=by
 unfold B.muxZ
 cases hm:B.muxI l with
 | none=>rfl
 | some i=>
  obtain⟨s,hs,hr⟩:=B.muxI_some hm;exact absurd hr (h i s (List.getElem?_eq_some_iff.1 hs).1 hs)
set_option maxRecDepth 100000 in
set_option maxHeartbeats 6400000 in
theorem mux_any(m:B.Msg)(sa:Option Addr)(n cap:Nat)(w:World)(hs:SigsAt w sa n m.sigs)(hn64:n≤64):
    Calls Tryz.prog 24 #[.agg (msgC m (.slice sa n cap))] w (NumOut (B.muxZ m.sigs) w):=by
 obtain⟨ans,hans⟩:∃ans,B.muxZ m.sigs=ans:=⟨_,rfl⟩;rw[hans];have HA:=hd' hans;have HS:=hd' hs;have HN:=hd' hs.len;have hrow:=RC.new (msgC m (.slice sa n cap)) 27 w (n:=8) rfl rfl;have hbel:Below w.heap.size w (w.alloc (.cells (msgC m (.slice sa n cap)) 27)):=(Below.refl _ _).alloc (lR' _) _;obtain⟨w1,hw1⟩:∃w1,w.alloc (.cells (msgC m (.slice sa n cap)) 27)=w1:=⟨_,rfl⟩;rw[hw1]at hrow hbel;have k7:w1.cell? ⟨w.heap.size,7,none⟩=some (.slice sa n cap):=hrow.cell (j:=7) rfl;have HB:=hd' hbel;clear hans hs hrow hbel;go_enter Tryz.func24,Tryz.ntmps24
 go_upto_region 1 with fail
 try rw[hw1]
 clear hw1;go_wp2_with fail;clear k7
 go_loopw [8] (fun i wr=>∃k:Nat,k≤n∧i= .int .i64 k∧Below w.heap.size w wr∧Hid (∀i t,i<k→m.sigs[i]? =some t→t.role≠1)) (fun i _=>n-(intOf i).toNat)
 case atStart=>exact⟨0,by omega,rfl,HB.out,hd' (fun i t h=>absurd h (by omega))⟩
 case round=>
  obtain⟨k,hk,rfl,hbr,HNO⟩:=hrel;have HBR:=hd' hbr;clear HB hbr
  by_cases hlt:k<n
  ·have hx:m.sigs[k]? =some (m.sigs[k]'(by have:=HN.out;omega)):=List.getElem?_eq_getElem _
   generalize m.sigs[k]'(by have:=HN.out;omega)=s at hx;obtain⟨b1,o1,rfl,hl1,a1,n1,c1,hrow,hto,hn1⟩:=HS.out.at_ k s hx;have hrr:=cells_below hrow HBR.out hl1;have HX:=hd' hx
   have q0:(0:Int)≤(k:Int):=by omega
   have q1:(k:Int)<n:=by omega
   clear hx hrow hto hl1
   go_upto_region 4 with(first
    | refine wpList_load_mid (by rfl) 71 _ (by rfl) b1 (o1+k*19) (by rfl) (sigC s (.slice a1 n1 c1)).toList _ hrr Tryz.underlying71 (by rfl) (by rw[infoN71];rfl) ?_
    | (refine wpList_store_mid (by rfl) 71 _ _ (by rfl) wr.heap.size 0 (sigC s (.slice a1 n1 c1)) (by rfl) (by rfl) (there_alloc _ _ _ (by rfl)) (by rw[infoN71];rfl) (ones_sig _ _ _ _) ?_;generalize hw4:World.setCells _ _ _ _=w4))
   obtain⟨X,hX⟩:∃X,wr.heap.size=X:=⟨_,rfl⟩
   have hb4:Below wr.heap.size wr w4:=by
    rw[←hw4];exact((Below.refl _ _).alloc (lR' _) _).grown (grownBy_setCells _ _ _ _) (by simp) (fun k hk=>by cases hk;exact lR' _)
   have hrow4:RC w4 X 71 19 (sigC s (.slice a1 n1 c1)):=by rw[←hw4,←hX];exact RC.over _ _ _ _ (by rfl) rfl
   have HBW4:=hd' (HBR.out.trans (hb4.mono HBR.out.size));have j3:w4.cell? ⟨X,3,none⟩=some (.int .i64 s.role):=hrow4.cell (j:=3) rfl;rw[hX];clear hw4 hb4 hrow4 hrr hX
   by_cases hr:s.role=1
   ·have e1:(s.role==1)=true:=by simp[hr]
    have HE:=hd' (mux_at HX.out hr HNO.out);clear hr;go_wp2_with fail;go_ret;exact⟨by rw[←HA.out,HE.out];rfl,HBW4.out⟩
   ·have e1:(s.role==1)=false:=by simp[hr]
    have HR:=hd' hr;clear hr;go_wp2_with fail;go_roundw
    case rel=>
     refine⟨k+1,by omega,by go_num,HBW4.out,hd' (fun i t hi ht=> ?_)⟩
     by_cases e:i=k
     ·rw[e,HX.out]at ht
      cases ht;exact HR.out
     ·exact HNO.out i t (by omega) ht
    case measure=>simp[intOf];omega
  ·obtain rfl:n=k:=by omega
   have HE:=hd' (mux_no (fun i t hi ht=>HNO.out i t (by rw[HN.out];exact hi) ht));go_wp2_with fail;go_ret;exact⟨by rw[←HA.out,HE.out];rfl,HBR.out⟩
structure Grew(L:Nat)(ao ao':Option Addr)(w w':World):Prop where
 keep:∀b,b<w.heap.size→b≠L→ao≠some ⟨b,0,none⟩→w'.heap[b]? =w.heap[b]?
 where_:ao'=ao∨∃g,ao'=some ⟨g,0,none⟩∧w.heap.size≤g
 bel:Below L w w'
theorem Grew.refl(L:Nat)(ao:Option Addr)(w:World):Grew L ao ao w w:=⟨fun _ _ _ _=>rfl,.inl rfl,Below.refl _ _⟩
theorem Grew.trans{L:Nat}{a b c:Option Addr}{u v w:World}(h:Grew L a b u v)(g:Grew L b c v w):Grew L a c u w:=by
 have hs:=h.bel.size;refine⟨fun x hx hL hne=> ?_, ?_,h.bel.trans g.bel⟩
 ·refine(g.keep x (by omega) hL (fun e=> ?_)).trans (h.keep x hx hL hne)
  rcases h.where_ with e1 | ⟨y,e1,hy⟩
  ·rw[e1]at e;exact hne e
  ·rw[e1]at e;cases e;omega
 ·rcases g.where_ with e2 | ⟨y,e2,hy⟩
  ·rcases h.where_ with e1 | ⟨z,e1,hz⟩
   ·exact .inl (by rw[e2,e1])
   ·exact .inr ⟨z,by rw[e2,e1],hz⟩
  ·exact .inr ⟨y,e2,by omega⟩
theorem Grew.of_below{L:Nat}{ao:Option Addr}{u v:World}(h:Below u.heap.size u v)(hL:L≤u.heap.size):Grew L ao ao u v:=⟨fun b hb _ _=>h.block b hb,.inl rfl,h.mono hL⟩
theorem PutOut.grew{L:Nat}{ao:Option Addr}{n:Nat}{qs:List B.Ins}{w w':World}{e:Ending}(h:PutOut L ao n qs w e w'):∃ao' cap',e= .returned (.tuple #[])∧LnAt w' L ao' n cap' qs∧Grew L ao ao' w w':=by
 obtain⟨ao',cap',h1,h2,h3,h4,h5⟩:=h;exact⟨ao',cap',h1,h2,⟨h3,h4,h5⟩⟩
theorem LnAt.below{L n cap:Nat}{ao:Option Addr}{qs:List B.Ins}{w w':World}(h:LnAt w L ao n cap qs)(hb:Below w.heap.size w w'):LnAt w' L ao n cap qs:=by
 refine⟨(hb.cell (p:=⟨L,0,none⟩) h.lt).trans h.cell, ?_,h.own.kept hb,Nat.lt_of_lt_of_le h.lt hb.size⟩;have:=hb.block L h.lt;have hf:=h.free;simp only[World.frozen?,this];simpa only[World.frozen?]using hf
end Code
end Go.Proofs.YtljhklblbafjkaaGreatDoor
namespace Go.Proofs.YtljhklblbafjkaaGreatDoor
open Go.RowKit
namespace Code
attribute [local go_sem ↓] Go.wp_at_zero Go.wp_at_succ
theorem progAt_of{w w':World}{a:Option Addr}{n:Nat}{ps:List B.Ins}(h:ProgAt w a n ps)(hk:∀b off,a=some ⟨b,off,none⟩→b<w.heap.size→w'.heap[b]? =w.heap[b]?)(hsz:w.heap.size≤w'.heap.size):ProgAt w' a n ps:=by
 refine⟨h.len,fun i x hx=> ?_⟩;obtain⟨b,off,e,hlt,hat⟩:=h.at_ i x hx;have he:=hk b off e hlt
 have key:∀ {o:Nat} {v:Value},w.cell? ⟨b,o,none⟩=some v→w'.cell? ⟨b,o,none⟩=some v:=fun {o v} hc=>by
  rw[←hc];simp[World.cell?,he]
 exact⟨b,off,e,Nat.lt_of_lt_of_le hlt hsz,key hat.c0,key hat.c1,key hat.c2,key hat.c3,key hat.c4⟩
def BranchOut(L:Nat)(ao:Option Addr)(n:Nat)(qs:List B.Ins)(w:World)(e:Ending)(w':World):Prop:=∃ao' cap',e= .returned (.tuple #[])∧LnAt w' L ao' n cap' qs∧Grew L ao ao' w w'
set_option maxRecDepth 100000 in
set_option maxHeartbeats 6400000 in
theorem branch_any(L:Nat)(ao:Option Addr)(n cap:Nat)(qs:List B.Ins)(s:B.Sig)(tv:Value)(a:Option Addr)(k c:Nat)(l:List B.Ins)(w:World)(h:LnAt w L ao n cap qs)(hl:ProgAt w a k l)(hnil:a=none→c=0)
    (hfar:∀b off,a=some ⟨b,off,none⟩→b≠L∧ao≠some ⟨b,0,none⟩) (hbytes:(n+k+1)*40≤140737488355328):
    Calls Tryz.prog 26 #[putV L,.agg (sigC s tv),.slice a k c] w (BranchOut L ao (n+(s.branchI l).length) (qs++s.branchI l) w):=by
 have HBY:Hid ((n+1)*40≤140737488355328):=hd' (Nat.le_trans (Nat.mul_le_mul_right 40 (by omega:n+1≤n+k+1)) hbytes);have HBY2:Hid ((n+1+k)*40≤140737488355328):=hd' (Nat.le_trans (Nat.mul_le_mul_right 40 (by omega:n+1+k≤n+k+1)) hbytes);have HBY3:Hid ((n+k)*40≤140737488355328):=hd' (Nat.le_trans (Nat.mul_le_mul_right 40 (by omega:n+k≤n+k+1)) hbytes);have hrow:=RC.new (sigC s tv) 71 w (n:=19) rfl rfl;have hbel:Below w.heap.size w (w.alloc (.cells (sigC s tv) 71)):=(Below.refl _ _).alloc (lR' _) _;obtain⟨w1,hw1⟩:∃w1,w.alloc (.cells (sigC s tv) 71)=w1:=⟨_,rfl⟩;rw[hw1]at hrow hbel;have hl1:=h.below hbel;have hp1:=hl.below hbel (lR' _);have j3:w1.cell? ⟨w.heap.size,3,none⟩=some (.int .i64 s.role):=hrow.cell (j:=3) rfl;have j4:w1.cell? ⟨w.heap.size,4,none⟩=some (.int .u64 s.branch):=hrow.cell (j:=4) rfl
 have hg1:Grew L ao ao w w1:=Grew.of_below hbel (Nat.le_of_lt h.lt);have hlen:=hl.len;have HL1:=hd' hl1;have HP1:=hd' hp1;have HG1:=hd' hg1;have HNIL:=hd' hnil;have HFAR:=hd' hfar;have HLEN:=hd' hlen;unfold putV;clear hrow hbel hl1 hp1 hg1 h hl hnil hfar hlen;go_enter Tryz.func26,Tryz.ntmps26
 go_upto_region 1 with fail
 try rw[hw1]
 clear hw1
 by_cases hr:s.role=2
 ·have e1:(s.role==2)=true:=by simp[hr]
  have hbr:s.branchI l=⟨19,0,0,(k:Int),s.branch⟩::l:=by unfold B.Sig.branchI;rw[if_pos hr,HLEN.out]
  have HBR:=hd' hbr
  have hkk:(k:Int)=(l.length:Int):=by rw[HLEN.out]
  clear hr hbr hkk;go_wp2_with fail;have hp2:=progAt_new [⟨19,0,0,(k:Int),s.branch⟩] #[.int .i64 19,.int .i64 0,.int .i64 0,.int .i64 (k:Int),.int .u64 s.branch] 1 74 w1 rfl rfl;have hb2:Below w1.heap.size w1 (w1.alloc (.cells #[.int .i64 19,.int .i64 0,.int .i64 0,.int .i64 (k:Int),.int .u64 s.branch] 74)):=(Below.refl _ _).alloc (lR' _) _;have hl2:=HL1.out.below hb2;have hp1':=HP1.out.below hb2 (lR' _);have hg2:Grew L ao ao w1 (w1.alloc (.cells #[.int .i64 19,.int .i64 0,.int .i64 0,.int .i64 (k:Int),.int .u64 s.branch] 74)):=Grew.of_below hb2 (Nat.le_of_lt HL1.out.lt);have hput:=put_any L ao n cap qs (some ⟨w1.heap.size,0,none⟩) 1 1 [⟨19,0,0,(k:Int),s.branch⟩] (w1.alloc (.cells #[.int .i64 19,.int .i64 0,.int .i64 0,.int .i64 (k:Int),.int .u64 s.branch] 74)) hl2 hp2 (fun h=>absurd h (by simp)) HBY.out;refine hput.mono ?_;intro e w3 hh
  obtain⟨ao3,cap3,rfl,hl3,hg3⟩:=hh.grew;have hg13:=(HG1.out.trans hg2).trans hg3;have hz:=hg13.bel.size;have hwz:w.heap.size≤w3.heap.size:=hz;have hp3:ProgAt w3 a k l:=progAt_of hp1' (fun b off ea hlt=>hg3.keep b hlt (HFAR.out b off ea).1 (HFAR.out b off ea).2) hg3.bel.size;have HL3:=hd' hl3;have HP3:=hd' hp3;have HG13:=hd' hg13;clear hp2 hb2 hl2 hp1' hg2 hl3 hg3 hp3 hg13 hz hwz hh HG1 HL1 HP1 j3 j4;go_wp2_with fail;have hput2:=put_any L ao3 (n+1) cap3 (qs++[⟨19,0,0,(k:Int),s.branch⟩]) a k c l w3 HL3.out HP3.out HNIL.out HBY2.out;refine hput2.mono ?_;intro e w4 hh;obtain⟨ao4,cap4,rfl,hl4,hg4⟩:=hh.grew;have HL4:=hd' hl4;have HG4:=hd' (HG13.out.trans hg4);clear hl4 hg4 hh;go_wp2_with fail
  go_end0
  refine⟨ao4,cap4,rfl, ?_,HG4.out⟩;have h:=HL4.out;rw[List.append_assoc]at h;rw[HBR.out,List.length_cons,←HLEN.out,show n+(k+1)=n+1+k by omega];exact h
 ·have e1:(s.role==2)=false:=by simp[hr]
  have hbr:s.branchI l=l:=by unfold B.Sig.branchI;rw[if_neg hr]
  have hput:=put_any L ao n cap qs a k c l w1 HL1.out HP1.out HNIL.out HBY3.out;have HBR:=hd' hbr;clear hr hbr;go_wp2_with fail;refine hput.mono ?_;intro e w2 hh;obtain⟨ao2,cap2,rfl,hl2,hg2⟩:=hh.grew;go_wp2_with fail
  go_end0
  refine⟨ao2,cap2,rfl, ?_,HG1.out.trans hg2⟩;rw[HBR.out,←HLEN.out];exact hl2
end Code
end Go.Proofs.YtljhklblbafjkaaGreatDoor
