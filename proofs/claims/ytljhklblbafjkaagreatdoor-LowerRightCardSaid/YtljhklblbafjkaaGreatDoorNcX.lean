/- Steps of regions that draw their order: a struct stored into a block. -/
import Derived.Test.YtljhklblbafjkaaGreatDoorLwU
import Derived.Test.YtljhklblbafjkaaGreatDoorNbQ
import Derived.Deep.RegionHeld3
import Derived.Test.YtljhklblbafjkaaGreatDoorNaQ
open Go.Lib renaming hid→hd'
open Nat renaming le_refl→lR'
open List renaming setIfInBounds_toArray→sA',set_cons_zero→sZ',set_cons_succ→sS'
namespace Go.Proofs.YtljhklblbafjkaaGreatDoor
open Go.RowKit
namespace Code
theorem RC.low{N:Nat}{w w':World}{b n:Nat}{T:TypeId}{C:Array Value}(h:RC w b T n C)(hb:Below N w w')(hN:b<N):RC w' b T n C:=h.of (hb.block b hN)
theorem step_into{ty:TypeId}{n:Nat}(hi:(Tryz.prog.info? ty).map (·.size)=some n){ops:Array Oper}{o:Oper}{a:Act}{K:Act→World→Prop}{Q:Exit→Act→World→Prop}{X:Prop}{W:World}(hgd:o.guard=none)(p v:Operand)(ho:o.op= .store ty p v)
    {G:Nat} {C D:Array Value} (hx:a.eval p= .pointer (some ⟨G,0,none⟩)) (hy:a.eval v= .agg C) (hG:RC W G ty n D) (hC:C.size=n) (h1:C.all (·.oneCell')=true)
    (h:∀w',RC w' G ty n C→W.grownBy w' (some G)→K (a.put o.dst undef) w'):
    if Region.wanted o (yielded ops a.tmps)=true then Oper.wp Tryz.prog o a W K Q else X:=by
 have hw:Region.wanted o (yielded ops a.tmps)=true:=by simp[Region.wanted,hgd]
 rw[if_pos hw];refine wp_store_mid ty p v ho G 0 C hx hy ?_ (by rw[hi,hC]) h1 ?_
 ·rw[hC];exact hG.there
 ·exact h _ (hG.store C hC) (grownBy_setCells _ _ _ _)
end Code
end Go.Proofs.YtljhklblbafjkaaGreatDoor
namespace Go.Proofs.YtljhklblbafjkaaGreatDoor
open Go.RowKit
namespace Code
attribute [local go_sem ↓] Go.wp_at_zero Go.wp_at_succ
set_option maxRecDepth 100000 in
set_option maxHeartbeats 1000000 in
theorem rright_any(q:B.Rt)(hx:RtOk q)(w:World):Calls Tryz.prog 59 #[rtV q] w (fun e w'=>e= .returned (.bool q.right)∧Below w.heap.size w w'):=by
 obtain⟨n,d⟩:=q;obtain⟨hn,hd⟩:=hx;simp only at hn hd;unfold rtV;have hrow:=RC.new #[.int .i64 n,.int .i64 d] 68 w (n:=2) rfl rfl;have hbel:Below w.heap.size w (w.alloc (.cells #[.int .i64 n,.int .i64 d] 68)):=(Below.refl _ _).alloc (lR' _) _;obtain⟨w1,hw1⟩:∃w1,w.alloc (.cells #[.int .i64 n,.int .i64 d] 68)=w1:=⟨_,rfl⟩;rw[hw1]at hrow hbel;have HR:=hd' hrow;have HB:=hd' hbel;have k1:w1.cell? ⟨w.heap.size,1,none⟩=some (.int .i64 d):=hrow.cell (j:=1) rfl;clear hrow hbel
 by_cases h:d<1
 ·have e1:(d<1)=True:=by simp[h]
  have ha:B.Rt.right ⟨n,d⟩=false:=by
   unfold B.Rt.right
   have:decide (1≤d)=false:=by simp;omega
   simp only[this,Bool.false_and]
  rw[ha];clear h ha hn hd;go_enter Tryz.func59,Tryz.ntmps59
  go_upto_region 1 with fail
  try rw[hw1]
  clear hw1;go_wp2_with fail;go_ret;exact⟨rfl,HB.out⟩
 ·have e1:(d<1)=False:=by simp[h]
  obtain⟨x,hxx⟩:∃x,n.natAbs=x:=⟨_,rfl⟩;obtain⟨y,hyy⟩:∃y,d.natAbs=y:=⟨_,rfl⟩;obtain⟨h1,h2⟩:=hn;obtain⟨h3,h4⟩:=hd;have HX:Hid (x<18446744073709551616):=hd' (by omega);have HY:Hid (y<18446744073709551616):=hd' (by omega);have HY0:Hid (0<y):=hd' (by omega);have HC1:=hd' (fun w=>rsize_any n w h1 h2);have HC2:=hd' (fun w=>from_any x w HX.out);have HC3:=hd' (fun w=>rsize_any d w h3 h4);have HC4:=hd' (fun w=>from_any y w HY.out);have HL:Hid (∀z,z<18446744073709551616→(B.dig z).length≤2):=hd' (fun z hz=>B.dig_length_le (k:=2) (by omega));obtain⟨g,hg⟩:∃g,Nat.gcd x y=g:=⟨_,rfl⟩
  have ha:B.Rt.right ⟨n,d⟩=decide (g=1):=by
   unfold B.Rt.right
   have e:d.toNat=y:=by omega
   have e2:decide (1≤d)=true:=by simp;omega
   simp only[e,e2,hxx,Bool.true_and];exact decide_eq_decide.2 (by rw[hg])
  rw[ha];rw[hxx]at HC1;rw[hyy]at HC3;have HG:Hid (Nat.gcd x y<18446744073709551616):=hd' (Nat.lt_of_le_of_lt (Nat.gcd_le_right x HY0.out) HY.out);clear h ha hxx hyy h1 h2 h3 h4;have HGD:=hd' hg;clear hg;go_enter Tryz.func59,Tryz.ntmps59
  go_upto_region 1 with fail
  try rw[hw1]
  clear hw1
  go_upto_region 3 with fail
  clear k1 e1;refine wp_region_held_drew (S:=Below w1.heap.size w1) (by kernel_rfl) (Below.refl _ _).drew (fun hS1=> ?_);refine takeS (i:=0) (d:=9) (v:=.pointer (some ⟨w.heap.size,0,none⟩)) rfl rfl rfl (by kernel_rfl) (by kernel_rfl) (by kernel_rfl) (fun _ _ _ h=>h) (fun w' h=>by go_simp) hS1 ?_
  try simp only[Act.put,sA',sZ',sS']
  refine takeS (i:=1) (d:=10) (v:=.int .i64 n) rfl rfl rfl (by kernel_rfl) (by kernel_rfl) (by kernel_rfl) (fun _ _ _ h=>h) (fun w' h=>by(have c:=(HR.out.low h HR.out.blk).cell (j:=0) (v:=.int .i64 n) rfl;go_simp)) hS1 ?_
  try simp only[Act.put,sA',sZ',sS']
  refine takeS (i:=4) (d:=13) (v:=.pointer (some ⟨w.heap.size,1,none⟩)) rfl rfl rfl (by kernel_rfl) (by kernel_rfl) (by kernel_rfl) (fun _ _ _ h=>h) (fun w' h=>by go_simp) hS1 ?_
  try simp only[Act.put,sA',sZ',sS']
  refine takeS (i:=5) (d:=14) (v:=.int .i64 d) rfl rfl rfl (by kernel_rfl) (by kernel_rfl) (by kernel_rfl) (fun _ _ _ h=>h) (fun w' h=>by(have c:=(HR.out.low h HR.out.blk).cell (j:=1) (v:=.int .i64 d) rfl;go_simp)) hS1 ?_
  try simp only[Act.put,sA',sZ',sS']
  refine wpAnyH_ready (rs:=[2]) (by kernel_rfl) (by simp) ?_;refine AllReadyH.cons rfl (fun K hK=> ?_) AllReadyH.nil;go_simp;refine(HC1.out _).mono ?_;rintro e y1 ⟨rfl,rfl⟩;refine hK.out _ _ (hS1) (fun hS2=> ?_);clear hK K
  try simp only[Act.put,List.getElem_toArray,List.getElem_cons_succ,List.getElem_cons_zero,sA',sZ',sS']
  refine wpAnyH_ready (rs:=[3]) (by kernel_rfl) (by simp) ?_;refine AllReadyH.cons rfl (fun K hK=> ?_) AllReadyH.nil;go_simp;refine(HC2.out _).mono ?_;rintro e y2 ⟨a1,n1,c1,rfl,hN1,hb1,_⟩;refine hK.out _ _ (hS2.trans (hb1.mono hS2.size)) (fun hS3=> ?_);clear hK K
  try simp only[Act.put,List.getElem_toArray,List.getElem_cons_succ,List.getElem_cons_zero,sA',sZ',sS']
  refine wpAnyH_ready (rs:=[6]) (by kernel_rfl) (by simp) ?_;refine AllReadyH.cons rfl (fun K hK=> ?_) AllReadyH.nil;go_simp;refine(HC3.out _).mono ?_;rintro e y3 ⟨rfl,rfl⟩;refine hK.out _ _ (hS3) (fun hS4=> ?_);clear hK K
  try simp only[Act.put,List.getElem_toArray,List.getElem_cons_succ,List.getElem_cons_zero,sA',sZ',sS']
  refine wpAnyH_ready (rs:=[7]) (by kernel_rfl) (by simp) ?_;refine AllReadyH.cons rfl (fun K hK=> ?_) AllReadyH.nil;go_simp;refine(HC4.out _).mono ?_;rintro e y4 ⟨a2,n2,c2,rfl,hN2,hb2,_⟩;refine hK.out _ _ (hS4.trans (hb2.mono hS4.size)) (fun hS5=> ?_);clear hK K
  try simp only[Act.put,List.getElem_toArray,List.getElem_cons_succ,List.getElem_cons_zero,sA',sZ',sS']
  have hq1:=hN1.len;have hq2:=hN2.len;have hl1:=HL.out _ HX.out;have hl2:=HL.out _ HY.out
  have q1:n1≤1000:=by omega
  have q2:n2≤1000:=by omega
  clear hq1 hq2 hl1 hl2;have q3:NatAt y4 a1 n1 x:=hN1.below hb2 (lR' _);have hcm:=common_any a1 a2 n1 c1 n2 c2 x y y4 q3 hN2 HY.out q1 q2;refine wpAnyH_ready (rs:=[8]) (by kernel_rfl) (by simp) ?_;refine AllReadyH.cons rfl (fun K hK=> ?_) AllReadyH.nil;go_simp;refine(hcm).mono ?_;rintro e y5 ⟨a3,n3,c3,rfl,hN3,hb3⟩;refine hK.out _ _ (hS5.trans (hb3.mono hS5.size)) (fun hS6=> ?_);clear hK K
  try simp only[Act.put,List.getElem_toArray,List.getElem_cons_succ,List.getElem_cons_zero,sA',sZ',sS']
  refine takeS (i:=9) (d:=3) (v:=.slice a3 n3 c3) rfl rfl rfl (by kernel_rfl) (by kernel_rfl) (by kernel_rfl) (fun _ _ _ h=>h) (fun w' h=>by go_simp) hS6 ?_
  try simp only[Act.put,sA',sZ',sS']
  refine wpAnyH_done (by kernel_rfl) ?_ _;rw[HGD.out]at hN3
  have hn3:n3≤2:=by
   rw[hN3.len];exact HL.out g (by rw[←HGD.out];exact HG.out)
  have e1:((n3:Int)≤2)=True:=by simp;omega
  have e2:(((g:Nat):Int)==1)=decide (g=1):=by rw[Bool.eq_iff_iff];simp;omega
  have hw:=nword_any a3 n3 c3 g y5 hN3;have HBF:Hid (Below w.heap.size w y5):=hd' (HB.out.trans (hS6.mono HB.out.size));clear hN1 hN2 hN3 hb1 hb2 hb3 hS1 hS2 hS3 hS4 hS5 hS6 HC1 HC2 HC3 HC4
  go_upto_region 5 with(go_at_call 90;refine hw.mono ?_;rintro e y6 ⟨N,rfl,hN,rfl⟩;obtain rfl:=hN hn3)
  clear hN hn3
  cases hc:decide (N=1)with
  | true=>
   rw[hc]at e2;have HDC:=hd' hc;clear hc;go_wp2_with fail;go_ret;exact⟨by rw[HDC.out];rfl,HBF.out⟩
  | false=>
   rw[hc]at e2;have HDC:=hd' hc;clear hc;go_wp2_with fail;go_ret;exact⟨by rw[HDC.out];rfl,HBF.out⟩
end Code
end Go.Proofs.YtljhklblbafjkaaGreatDoor
namespace Go.Proofs.YtljhklblbafjkaaGreatDoor
open Go.RowKit
namespace Code
attribute [local go_sem ↓] Go.wp_at_zero Go.wp_at_succ
def FracOk(w:World)(C:Array Value)(neg:Bool)(x d:Nat):Prop:=∃a1 n1 c1 a2 n2 c2,C= #[.bool neg,.slice a1 n1 c1,.slice a2 n2 c2]∧NatAt w a1 n1 x∧NatAt w a2 n2 d
theorem FracOk.below{N:Nat}{w w':World}{C:Array Value}{neg:Bool}{x d:Nat}(h:FracOk w C neg x d)(hb:Below N w w')(hN:w.heap.size≤N):FracOk w' C neg x d:=by
 obtain⟨a1,n1,c1,a2,n2,c2,rfl,h1,h2⟩:=h;exact⟨a1,n1,c1,a2,n2,c2,rfl,h1.below hb hN,h2.below hb hN⟩
def FracOut(neg:Bool)(x d:Nat)(w:World)(e:Ending)(w':World):Prop:=∃C,e= .returned (.agg C)∧FracOk w' C neg x d∧Below w.heap.size w w'
theorem infoFr:(Tryz.prog.info? 207).map (·.size)=some 3:=by kernel_rfl
theorem retFrac{fn:Func}{p:Nat}(hr:fn.results= #[.cell p 207]){tmps:Array Value}{wz:World}{R:Nat}{C:Array Value}(hp:tmps.getD p undef= .pointer (some ⟨R,0,none⟩))(hm:RC wz R 207 3 C):(results fn tmps).run Tryz.prog wz= .ok (.agg C) wz:=
 results_cell hr hp (run_loadVar_mid (P:=Tryz.prog) wz R 0 207 C.toList _ (RC.range hm) Tryz.underlying207 rfl (by rw[infoFr,Array.length_toList,hm.2]))
theorem below_put{N:Nat}{a w w':World}{g:Nat}(h:Below N a w)(hg:w.grownBy w' (some g))(hN:N≤g)(hs:N≤w.heap.size):Below N a w':=h.grown hg hs (fun k hk=>by cases hk;exact hN)
theorem NatAt.drew{w:World}{a:Option Addr}{n v:Nat}(h:NatAt w a n v):NatAt w.drew a n v:=ListAt.drew h
theorem NatAt.put{w w':World}{a:Option Addr}{n v g:Nat}(h:NatAt w a n v)(hg:w.grownBy w' (some g))(hne:∀p,a=some p→p.block≠g):NatAt w' a n v:=by
 refine⟨ListAt.len h,fun i x hx=> ?_⟩;obtain⟨b,off,e,hlt,hc⟩:=ListAt.at_ h i x hx;have hne2:b≠g:=hne _ e;refine⟨b,off,e,Nat.lt_of_lt_of_le hlt hg.size, ?_⟩;rw[←hc];exact World.cell?_of_block (a:=⟨b,off+i,none⟩) (hg.block b hlt (fun e=>hne2 (Option.some.inj e)))
set_option maxRecDepth 100000 in
set_option maxHeartbeats 1000000 in
theorem of_frac(q:B.Rt)(hx:RtOk q)(w:World):Calls Tryz.prog 129 #[rtV q] w (FracOut (decide (q.num<0)) q.num.natAbs q.den.natAbs w):=by
 obtain⟨n,d⟩:=q;obtain⟨hn,hd⟩:=hx;simp only at hn hd⊢;unfold rtV;have hrow:=RC.new #[.int .i64 n,.int .i64 d] 68 w (n:=2) rfl rfl;have hbel:Below w.heap.size w (w.alloc (.cells #[.int .i64 n,.int .i64 d] 68)):=(Below.refl _ _).alloc (lR' _) _;obtain⟨w1,hw1⟩:∃w1,w.alloc (.cells #[.int .i64 n,.int .i64 d] 68)=w1:=⟨_,rfl⟩;rw[hw1]at hrow hbel;have hres:=RC.new #[.bool false,.slice none 0 0,.slice none 0 0] 207 w1 (n:=3) rfl rfl;have hb12:Below w1.heap.size w1 (w1.alloc (.cells #[.bool false,.slice none 0 0,.slice none 0 0] 207)):=(Below.refl _ _).alloc (lR' _) _;obtain⟨w2,hw2⟩:∃w2,w1.alloc (.cells #[.bool false,.slice none 0 0,.slice none 0 0] 207)=w2:=⟨_,rfl⟩;rw[hw2]at hres hb12;have HRB:=hd' hrow.blk;have HR:=hd' (hrow.low hb12 hrow.blk);have HRES:=hd' hres
 have HLE:Hid (w1.heap.size≤w2.heap.size):=hd' hb12.size;have HLT:=hd' hres.blk;have HB:=hd' (hbel.trans (hb12.mono hbel.size));have HZ:Hid (w.heap.size≤w1.heap.size):=hd' hbel.size;clear hrow hbel hb12 hres;obtain⟨x,hxx⟩:∃x,n.natAbs=x:=⟨_,rfl⟩;obtain⟨y,hyy⟩:∃y,d.natAbs=y:=⟨_,rfl⟩;obtain⟨h1,h2⟩:=hn;obtain⟨h3,h4⟩:=hd;have HC1:=hd' (fun w=>rsize_any n w h1 h2);have HC2:=hd' (fun w=>from_any x w (by omega));have HC3:=hd' (fun w=>rsize_any d w h3 h4);have HC4:=hd' (fun w=>from_any y w (by omega));rw[hxx]at HC1⊢;rw[hyy]at HC3⊢;clear hxx hyy h1 h2 h3 h4;go_enter Tryz.func129,Tryz.ntmps129
 go_upto_region 1 with fail
 try rw[hw1]
 try rw[hw2]
 clear hw1 hw2;have hT1:Below w2.heap.size w2 w2.drew:=(Below.refl _ _).drew;refine wp_region_held_drew (S:=Below w1.heap.size w2) (by kernel_rfl) (hT1.mono HLE.out) (fun hS1=> ?_);refine takeS (i:=0) (d:=3) (v:=.pointer (some ⟨w.heap.size,0,none⟩)) rfl rfl rfl (by kernel_rfl) (by kernel_rfl) (by kernel_rfl) (fun _ _ _ h=>h) (fun w' h=>by go_simp) hS1 ?_
 try simp only[Act.put,sA',sZ',sS']
 refine takeS (i:=1) (d:=4) (v:=.int .i64 n) rfl rfl rfl (by kernel_rfl) (by kernel_rfl) (by kernel_rfl) (fun _ _ _ h=>h) (fun w' h=>by(have c:=(HR.out.low h HRB.out).cell (j:=0) (v:=.int .i64 n) rfl;go_simp)) hS1 ?_
 try simp only[Act.put,sA',sZ',sS']
 refine takeS (i:=2) (d:=5) (v:=.bool (decide (n<0))) rfl rfl rfl (by kernel_rfl) (by kernel_rfl) (by kernel_rfl) (fun _ _ _ h=>h) (fun w' h=>by go_simp) hS1 ?_
 try simp only[Act.put,sA',sZ',sS']
 refine takeS (i:=3) (d:=6) (v:=.pointer (some ⟨w.heap.size,0,none⟩)) rfl rfl rfl (by kernel_rfl) (by kernel_rfl) (by kernel_rfl) (fun _ _ _ h=>h) (fun w' h=>by go_simp) hS1 ?_
 try simp only[Act.put,sA',sZ',sS']
 refine takeS (i:=4) (d:=7) (v:=.int .i64 n) rfl rfl rfl (by kernel_rfl) (by kernel_rfl) (by kernel_rfl) (fun _ _ _ h=>h) (fun w' h=>by(have c:=(HR.out.low h HRB.out).cell (j:=0) (v:=.int .i64 n) rfl;go_simp)) hS1 ?_
 try simp only[Act.put,sA',sZ',sS']
 refine takeS (i:=7) (d:=10) (v:=.pointer (some ⟨w.heap.size,1,none⟩)) rfl rfl rfl (by kernel_rfl) (by kernel_rfl) (by kernel_rfl) (fun _ _ _ h=>h) (fun w' h=>by go_simp) hS1 ?_
 try simp only[Act.put,sA',sZ',sS']
 refine takeS (i:=8) (d:=11) (v:=.int .i64 d) rfl rfl rfl (by kernel_rfl) (by kernel_rfl) (by kernel_rfl) (fun _ _ _ h=>h) (fun w' h=>by(have c:=(HR.out.low h HRB.out).cell (j:=1) (v:=.int .i64 d) rfl;go_simp)) hS1 ?_
 try simp only[Act.put,sA',sZ',sS']
 refine wpAnyH_ready (rs:=[5]) (by kernel_rfl) (by simp) ?_;refine AllReadyH.cons rfl (fun K hK=> ?_) AllReadyH.nil;go_simp;refine(HC1.out _).mono ?_;rintro e y1 ⟨rfl,rfl⟩;have hT2:Below w2.heap.size w2 w2.drew:=hT1;refine hK.out _ _ (hT2.mono HLE.out) (fun hS2=> ?_);clear hK K
 try simp only[Act.put,List.getElem_toArray,List.getElem_cons_succ,List.getElem_cons_zero,sA',sZ',sS']
 refine wpAnyH_ready (rs:=[6]) (by kernel_rfl) (by simp) ?_;refine AllReadyH.cons rfl (fun K hK=> ?_) AllReadyH.nil;go_simp;refine(HC2.out _).mono ?_;rintro e y2 ⟨a1,n1,c1,rfl,hN1,hb1,hf1⟩;have hT3:Below w2.heap.size w2 y2:=hT2.trans (hb1.mono hT2.size);refine hK.out _ _ (hT3.mono HLE.out) (fun hS3=> ?_);clear hK K
 try simp only[Act.put,List.getElem_toArray,List.getElem_cons_succ,List.getElem_cons_zero,sA',sZ',sS']
 refine wpAnyH_ready (rs:=[9]) (by kernel_rfl) (by simp) ?_;refine AllReadyH.cons rfl (fun K hK=> ?_) AllReadyH.nil;go_simp;refine(HC3.out _).mono ?_;rintro e y3 ⟨rfl,rfl⟩;have hT4:Below w2.heap.size w2 y2:=hT3;refine hK.out _ _ (hT4.mono HLE.out) (fun hS4=> ?_);clear hK K
 try simp only[Act.put,List.getElem_toArray,List.getElem_cons_succ,List.getElem_cons_zero,sA',sZ',sS']
 refine wpAnyH_ready (rs:=[10]) (by kernel_rfl) (by simp) ?_;refine AllReadyH.cons rfl (fun K hK=> ?_) AllReadyH.nil;go_simp;refine(HC4.out _).mono ?_;rintro e y4 ⟨a2,n2,c2,rfl,hN2,hb2,hf2⟩;have hT5:Below w2.heap.size w2 y4:=hT4.trans (hb2.mono hT4.size);refine hK.out _ _ (hT5.mono HLE.out) (fun hS5=> ?_);clear hK K
 try simp only[Act.put,List.getElem_toArray,List.getElem_cons_succ,List.getElem_cons_zero,sA',sZ',sS']
 refine takeS (i:=11) (d:=14) (v:=.agg #[.bool (decide (n<0)),.slice a1 n1 c1,.slice a2 n2 c2]) rfl rfl rfl (by kernel_rfl) (by kernel_rfl) (by kernel_rfl) (fun _ _ _ h=>h) (fun w' h=>by go_simp) hS5 ?_
 try simp only[Act.put,sA',sZ',sS']
 have HRX:=HRES.out.low hT5 HRES.out.blk;refine wpAnyH_ready (rs:=[12]) (by kernel_rfl) (by simp) ?_;refine AllReadyH.cons rfl (fun K hK=> ?_) AllReadyH.nil;refine step_into (ty:=207) (n:=3) infoFr rfl (.tmp 2) (.tmp 14) rfl rfl rfl HRX rfl (by simp[Value.oneCell']) ?_;intro wx hrx hgx;have hSx:=below_put (hT5.mono HLE.out) hgx (lR' _) (Nat.le_trans HLE.out hT5.size);refine hK.out _ _ hSx (fun hS9=> ?_);clear hK K
 try simp only[Act.put,List.getElem_toArray,List.getElem_cons_succ,List.getElem_cons_zero]
 refine wpAnyH_done (by kernel_rfl) ?_ _;have hz2:w2.heap.size≤y2.heap.size:=hT3.size;have HBX:Hid (Below w.heap.size w wx):=hd' (below_put (HB.out.trans (hT5.mono HB.out.size)) hgx HZ.out (Nat.le_trans HB.out.size hT5.size))
 have HF:Hid (FracOk wx #[.bool (decide (n<0)),.slice a1 n1 c1,.slice a2 n2 c2] (decide (n<0)) x y):=hd' ⟨a1,n1,c1,a2,n2,c2,rfl,(hN1.below hb2 (lR' _)).put hgx (fun p e=>by
  have h1:=hf1 p e;have h2:=HLT.out;have h3:w2.drew.heap.size=w2.heap.size:=rfl
  omega),hN2.put hgx (fun p e=>by
  have h1:=hf2 p e;have h2:=HLT.out
  omega)⟩
 clear hz2 hgx hSx hS9 hS1 hS2 hS3 hS4 hS5 hT1 hT2 hT3 hT4 hT5 hN1 hN2 hb1 hb2 hf1 hf2 HRX;go_wp2_with fail;exact bodyPost_ret (v:=.agg #[.bool (decide (n<0)),.slice a1 n1 c1,.slice a2 n2 c2]) (retFrac (p:=2) (by kernel_rfl) rfl hrx) rfl ⟨_,rfl,HF.out,HBX.out⟩
set_option maxRecDepth 100000 in
set_option maxHeartbeats 1000000 in
theorem opposite_any(C:Array Value)(neg:Bool)(x d:Nat)(w:World)(h:FracOk w C neg x d):Calls Tryz.prog 130 #[.agg C] w (FracOut (!neg) x d w):=by
 obtain⟨a1,n1,c1,a2,n2,c2,rfl,h1,h2⟩:=h;have hrow:=RC.new #[.bool neg,.slice a1 n1 c1,.slice a2 n2 c2] 207 w (n:=3) rfl rfl;have hbel:Below w.heap.size w (w.alloc (.cells #[.bool neg,.slice a1 n1 c1,.slice a2 n2 c2] 207)):=(Below.refl _ _).alloc (lR' _) _;obtain⟨w1,hw1⟩:∃w1,w.alloc (.cells #[.bool neg,.slice a1 n1 c1,.slice a2 n2 c2] 207)=w1:=⟨_,rfl⟩;rw[hw1]at hrow hbel;have hres:=RC.new #[.bool false,.slice none 0 0,.slice none 0 0] 207 w1 (n:=3) rfl rfl;have hb12:Below w1.heap.size w1 (w1.alloc (.cells #[.bool false,.slice none 0 0,.slice none 0 0] 207)):=(Below.refl _ _).alloc (lR' _) _;obtain⟨w2,hw2⟩:∃w2,w1.alloc (.cells #[.bool false,.slice none 0 0,.slice none 0 0] 207)=w2:=⟨_,rfl⟩;rw[hw2]at hres hb12;have hr2:=hrow.low hb12 hrow.blk
 have hb2:Below w.heap.size w w2:=hbel.trans (hb12.mono hbel.size);have HB:=hd' hb2;have HRES:=hd' hres;have HZ:Hid (w.heap.size≤w1.heap.size):=hd' hbel.size;have H1:=hd' h1;have H2:=hd' h2;have k0:w2.cell? ⟨w.heap.size,0,none⟩=some (.bool neg):=hr2.cell (j:=0) rfl;have k1:w2.cell? ⟨w.heap.size,1,none⟩=some (.slice a1 n1 c1):=hr2.cell (j:=1) rfl;have k2:w2.cell? ⟨w.heap.size,2,none⟩=some (.slice a2 n2 c2):=hr2.cell (j:=2) rfl;have hth:=hres.there;clear hrow hbel hb12 hres h1 h2 hr2 hb2;go_enter Tryz.func130,Tryz.ntmps130
 go_upto_region 1 with fail
 try rw[hw1]
 try rw[hw2]
 clear hw1 hw2;go_wp2_with (refine wpList_store_mid rfl 207 (.tmp 2) (.tmp 10) rfl w1.heap.size 0 #[.bool (!neg),.slice a1 n1 c1,.slice a2 n2 c2] rfl rfl hth infoFr (by simp[Value.oneCell']) ?_;generalize hw3:World.setCells _ _ _ _=w3)
 have hrx:RC w3 w1.heap.size 207 3 #[.bool (!neg),.slice a1 n1 c1,.slice a2 n2 c2]:=by
  rw[←hw3];exact HRES.out.store _ rfl
 have HBX:Hid (Below w.heap.size w w3):=hd' (by
  rw[←hw3]
  exact below_put HB.out (grownBy_setCells _ _ _ _) HZ.out HB.out.size)
 clear hw3;exact bodyPost_ret (v:=.agg #[.bool (!neg),.slice a1 n1 c1,.slice a2 n2 c2]) (retFrac (p:=2) (by kernel_rfl) rfl hrx) rfl ⟨_,rfl,⟨a1,n1,c1,a2,n2,c2,rfl,H1.out.below HBX.out (lR' _),H2.out.below HBX.out (lR' _)⟩,HBX.out⟩
end Code
end Go.Proofs.YtljhklblbafjkaaGreatDoor
namespace Go.Proofs.YtljhklblbafjkaaGreatDoor
open Go.RowKit
namespace Code
attribute [local go_sem ↓] Go.wp_at_zero Go.wp_at_succ
def SumOut(neg:Bool)(v:Nat)(w:World)(e:Ending)(w':World):Prop:=∃a n c b m d,e= .returned (.agg #[.bool neg,.slice a n c,.slice b m d])∧n=(B.dig v).length∧Below w.heap.size w w'
def sumNeg(fn gn:Bool)(P Q:Nat):Bool:=if fn=gn then fn else if Q≤P then fn else gn
def sumVal(fn gn:Bool)(P Q:Nat):Nat:=if fn=gn then P+Q else if Q≤P then P-Q else Q-P
set_option maxRecDepth 100000 in
set_option maxHeartbeats 2000000 in
theorem sum_any(F G:Array Value)(fn gn:Bool)(x d y e:Nat)(w:World)(hf:FracOk w F fn x d)(hg:FracOk w G gn y e)(hx:x<18446744073709551616)(hd:d<18446744073709551616)(hy:y<18446744073709551616)(he:e<18446744073709551616):
    Calls Tryz.prog 128 #[.agg F,.agg G] w (SumOut (sumNeg fn gn (x*e) (y*d)) (sumVal fn gn (x*e) (y*d)) w):=by
 obtain⟨a1,n1,c1,a2,n2,c2,rfl,hf1,hf2⟩:=hf;obtain⟨b1,m1,d1,b2,m2,d2,rfl,hg1,hg2⟩:=hg
 have HL:∀(z k:Nat),z<4294967296^k→(B.dig z).length≤k:=fun z k hz=>B.dig_length_le hz
 have l1:n1≤1000000:=by rw[hf1.len];exact Nat.le_trans (HL x 2 (by omega)) (by omega)
 have l2:n2≤1000000:=by rw[hf2.len];exact Nat.le_trans (HL d 2 (by omega)) (by omega)
 have l3:m1≤1000000:=by rw[hg1.len];exact Nat.le_trans (HL y 2 (by omega)) (by omega)
 have l4:m2≤1000000:=by rw[hg2.len];exact Nat.le_trans (HL e 2 (by omega)) (by omega)
 have hmul:∀p q:Nat,p<18446744073709551616→q<18446744073709551616→p*q<4294967296^4:=fun p q hp hq=>by
  have:=Nat.mul_lt_mul'' hp hq;exact this
 have HP4:Hid ((B.dig (x*e)).length≤4):=hd' (HL _ 4 (hmul x e hx he));have HQ4:Hid ((B.dig (y*d)).length≤4):=hd' (HL _ 4 (hmul y d hy hd));clear HL hmul hx hd hy he;have hrow:=RC.new #[.bool fn,.slice a1 n1 c1,.slice a2 n2 c2] 207 w (n:=3) rfl rfl;have hbel:Below w.heap.size w (w.alloc (.cells #[.bool fn,.slice a1 n1 c1,.slice a2 n2 c2] 207)):=(Below.refl _ _).alloc (lR' _) _;obtain⟨w1,hw1⟩:∃w1,w.alloc (.cells #[.bool fn,.slice a1 n1 c1,.slice a2 n2 c2] 207)=w1:=⟨_,rfl⟩;rw[hw1]at hrow hbel;have hrow2:=RC.new #[.bool gn,.slice b1 m1 d1,.slice b2 m2 d2] 207 w1 (n:=3) rfl rfl;have hb12:Below w1.heap.size w1 (w1.alloc (.cells #[.bool gn,.slice b1 m1 d1,.slice b2 m2 d2] 207)):=(Below.refl _ _).alloc (lR' _) _
 obtain⟨w2,hw2⟩:∃w2,w1.alloc (.cells #[.bool gn,.slice b1 m1 d1,.slice b2 m2 d2] 207)=w2:=⟨_,rfl⟩;rw[hw2]at hrow2 hb12;have hres:=RC.new #[.bool false,.slice none 0 0,.slice none 0 0] 207 w2 (n:=3) rfl rfl;have hb23:Below w2.heap.size w2 (w2.alloc (.cells #[.bool false,.slice none 0 0,.slice none 0 0] 207)):=(Below.refl _ _).alloc (lR' _) _;obtain⟨w3,hw3⟩:∃w3,w2.alloc (.cells #[.bool false,.slice none 0 0,.slice none 0 0] 207)=w3:=⟨_,rfl⟩;rw[hw3]at hres hb23;have hz01:=hbel.size;have hz12:=hb12.size;have hz23:=hb23.size;have hf3:=(hrow.low hb12 hrow.blk).low hb23 (Nat.lt_of_lt_of_le hrow.blk hz12);have hg3:=hrow2.low hb23 hrow2.blk;have hb3:Below w.heap.size w w3:=(hbel.trans (hb12.mono hz01)).trans (hb23.mono (Nat.le_trans hz01 hz12));have HFB:Hid (w.heap.size<w2.heap.size):=hd' (Nat.lt_of_lt_of_le hrow.blk hz12)
 have HGB:Hid (w1.heap.size<w2.heap.size):=hd' hrow2.blk;have HZ:Hid (w.heap.size≤w2.heap.size):=hd' (Nat.le_trans hz01 hz12);have HF:=hd' hf3;have HG:=hd' hg3;have HRES:=hd' hres;have HB3:=hd' hb3;have HLE0:Hid (w2.heap.size≤w3.heap.size):=hd' hz23;have k1:w3.cell? ⟨w.heap.size,1,none⟩=some (.slice a1 n1 c1):=hf3.cell (j:=1) rfl;have k2:w3.cell? ⟨w1.heap.size,2,none⟩=some (.slice b2 m2 d2):=hg3.cell (j:=2) rfl;have HF1:=hd' (hf1.below hb3 (lR' _));have HF2:=hd' (hf2.below hb3 (lR' _));have HG1:=hd' (hg1.below hb3 (lR' _));have HG2:=hd' (hg2.below hb3 (lR' _));have ht1:=times_any a1 b2 n1 c1 m2 d2 x e w3 HF1.out HG2.out l1 l4;clear hrow hbel hrow2 hb12 hres hb23 hz01 hz12 hz23 hf3 hg3 hb3 hf1 hf2 hg1 hg2;obtain⟨P,hP⟩:∃P,x*e=P:=⟨_,rfl⟩;obtain⟨Q,hQ⟩:∃Q,y*d=Q:=⟨_,rfl⟩;rw[hP]at HP4 ht1⊢;rw[hQ]at HQ4⊢;have HQQ:=hd' hQ;clear hP hQ
 go_enter Tryz.func128,Tryz.ntmps128
 go_upto_region 1 with fail
 try rw[hw1]
 try rw[hw2]
 try rw[hw3]
 clear hw1 hw2 hw3
 go_upto_region 2 with(go_at_call 161;refine ht1.mono ?_;rintro e w4 ⟨aP,nP,cP,rfl,hNP,hb34,_⟩)
 have k3:w4.cell? ⟨w1.heap.size,1,none⟩=some (.slice b1 m1 d1):=(HG.out.low hb34 HG.out.blk).cell (j:=1) rfl;have k4:w4.cell? ⟨w.heap.size,2,none⟩=some (.slice a2 n2 c2):=(HF.out.low hb34 HF.out.blk).cell (j:=2) rfl;have ht2:=times_any b1 a2 m1 d1 n2 c2 y d w4 (HG1.out.below hb34 (lR' _)) (HF2.out.below hb34 (lR' _)) l3 l2;rw[HQQ.out]at ht2;clear k1 k2 ht1
 go_upto_region 3 with(go_at_call 161;refine ht2.mono ?_;rintro e w5 ⟨aQ,nQ,cQ,rfl,hNQ,hb45,_⟩)
 have hb35:Below w3.heap.size w3 w5:=hb34.trans (hb45.mono hb34.size);have k5:w5.cell? ⟨w.heap.size,2,none⟩=some (.slice a2 n2 c2):=(HF.out.low hb35 HF.out.blk).cell (j:=2) rfl;have k6:w5.cell? ⟨w1.heap.size,2,none⟩=some (.slice b2 m2 d2):=(HG.out.low hb35 HG.out.blk).cell (j:=2) rfl;have ht3:=times_any a2 b2 n2 c2 m2 d2 d e w5 (HF2.out.below hb35 (lR' _)) (HG2.out.below hb35 (lR' _)) l2 l4;clear k3 k4 ht2
 go_upto_region 4 with(go_at_call 161;refine ht3.mono ?_;rintro e w6 ⟨aD,nD,cD,rfl,_,hb56,_⟩)
 have hb36:Below w3.heap.size w3 w6:=hb35.trans (hb56.mono hb35.size);have HF6:=hd' (HF.out.low hb36 HF.out.blk);have HG6:=hd' (HG.out.low hb36 HG.out.blk);have HRES6:=hd' (HRES.out.low hb36 HRES.out.blk);have HB6:=hd' (HB3.out.trans (hb36.mono HB3.out.size));have HLE:Hid (w2.heap.size≤w6.heap.size):=hd' (Nat.le_trans HLE0.out hb36.size);have HNP:=hd' ((hNP.below hb45 (lR' _)).below hb56 (lR' _));have HNQ:=hd' (hNQ.below hb56 (lR' _));have HF6B:=hd' HFB.out;have HG6B:=hd' HGB.out
 have q1:nP≤1000000:=by rw[HNP.out.len];exact Nat.le_trans HP4.out (by omega)
 have q2:nQ≤1000000:=by rw[HNQ.out.len];exact Nat.le_trans HQ4.out (by omega)
 have k7:w6.cell? ⟨w.heap.size,0,none⟩=some (.bool fn):=HF6.out.cell (j:=0) rfl;have k8:w6.cell? ⟨w1.heap.size,0,none⟩=some (.bool gn):=HG6.out.cell (j:=0) rfl;clear k5 k6 ht3 hb34 hb45 hb56 hb35 hb36 hNP hNQ HF HG HRES HB3 HF1 HF2 HG1 HG2
 by_cases hfg:fn=gn
 ·subst hfg
  have hs:sumNeg fn fn P Q=fn:=by unfold sumNeg;rw[if_pos rfl]
  have hv:sumVal fn fn P Q=P+Q:=by unfold sumVal;rw[if_pos rfl]
  have HSS:=hd' hs;have HVV:=hd' hv;clear hs hv
  go_upto_region 5 with fail
  clear k7 k8;have hT1:Below w6.heap.size w6 w6.drew:=(Below.refl _ _).drew;refine wp_region_held_drew (S:=Below w2.heap.size w6) (by kernel_rfl) (hT1.mono HLE.out) (fun hS1=> ?_);refine takeS (i:=0) (d:=28) (v:=.pointer (some ⟨w.heap.size,0,none⟩)) rfl rfl rfl (by kernel_rfl) (by kernel_rfl) (by kernel_rfl) (fun _ _ _ h=>h) (fun w' h=>by go_simp) hS1 ?_
  try simp only[Act.put,sA',sZ',sS']
  refine takeS (i:=1) (d:=29) (v:=.bool fn) rfl rfl rfl (by kernel_rfl) (by kernel_rfl) (by kernel_rfl) (fun _ _ _ h=>h) (fun w' h=>by(have c:=(HF6.out.low h HF6B.out).cell (j:=0) (v:=.bool fn) rfl;go_simp)) hS1 ?_
  try simp only[Act.put,sA',sZ',sS']
  refine takeS (i:=2) (d:=30) (v:=.slice aP nP cP) rfl rfl rfl (by kernel_rfl) (by kernel_rfl) (by kernel_rfl) (fun _ _ _ h=>h) (fun w' h=>by go_simp) hS1 ?_
  try simp only[Act.put,sA',sZ',sS']
  refine takeS (i:=3) (d:=31) (v:=.slice aQ nQ cQ) rfl rfl rfl (by kernel_rfl) (by kernel_rfl) (by kernel_rfl) (fun _ _ _ h=>h) (fun w' h=>by go_simp) hS1 ?_
  try simp only[Act.put,sA',sZ',sS']
  refine takeS (i:=5) (d:=33) (v:=.slice aD nD cD) rfl rfl rfl (by kernel_rfl) (by kernel_rfl) (by kernel_rfl) (fun _ _ _ h=>h) (fun w' h=>by go_simp) hS1 ?_
  try simp only[Act.put,sA',sZ',sS']
  refine wpAnyH_ready (rs:=[4]) (by kernel_rfl) (by simp) ?_;refine AllReadyH.cons rfl (fun K hK=> ?_) AllReadyH.nil;go_simp;refine(plus_any aP aQ nP cP nQ cQ P Q _ (HNP.out.drew) (HNQ.out.drew) q1 q2).mono ?_;rintro e y1 ⟨aR,nR,cR,rfl,hNR,hbR,_⟩;have hT2:Below w6.heap.size w6 y1:=hT1.trans (hbR.mono hT1.size);refine hK.out _ _ (hT2.mono HLE.out) (fun hS2=> ?_);clear hK K
  try simp only[Act.put,List.getElem_toArray,List.getElem_cons_succ,List.getElem_cons_zero,sA',sZ',sS']
  refine takeS (i:=6) (d:=34) (v:=.agg #[.bool fn,.slice aR nR cR,.slice aD nD cD]) rfl rfl rfl (by kernel_rfl) (by kernel_rfl) (by kernel_rfl) (fun _ _ _ h=>h) (fun w' h=>by go_simp) hS2 ?_
  try simp only[Act.put,sA',sZ',sS']
  have HRX:=HRES6.out.low hT2 HRES6.out.blk;refine wpAnyH_ready (rs:=[7]) (by kernel_rfl) (by simp) ?_;refine AllReadyH.cons rfl (fun K hK=> ?_) AllReadyH.nil;refine step_into (ty:=207) (n:=3) infoFr rfl (.tmp 4) (.tmp 34) rfl rfl rfl HRX rfl (by simp[Value.oneCell']) ?_;intro wx hrx hgx;have hSx:=below_put (hT2.mono HLE.out) hgx (lR' _) (Nat.le_trans HLE.out hT2.size);refine hK.out _ _ hSx (fun hS9=> ?_);clear hK K
  try simp only[Act.put,List.getElem_toArray,List.getElem_cons_succ,List.getElem_cons_zero]
  refine wpAnyH_done (by kernel_rfl) ?_ _;have HBX:Hid (Below w.heap.size w wx):=hd' (below_put (HB6.out.trans (hT2.mono HB6.out.size)) hgx HZ.out (Nat.le_trans HB6.out.size hT2.size));have HN:=hd' hNR.len;clear hgx hSx hS9 hS1 hS2 hT1 hT2 hNR hbR HRX;go_wp2_with fail;exact bodyPost_ret (v:=.agg #[.bool fn,.slice aR nR cR,.slice aD nD cD]) (retFrac (p:=4) (by kernel_rfl) rfl hrx) rfl ⟨aR,nR,cR,_,_,_,by rw[HSS.out],by rw[HVV.out];exact HN.out,HBX.out⟩
 ·have e1:(fn==gn)=false:=by cases fn<;>cases gn<;>first | rfl | exact absurd rfl hfg
  have hheld:=held_any aP aQ nP cP nQ cQ P Q w6 HNP.out HNQ.out q1 q2
  by_cases hPQ:P<Q
  ·have hs:sumNeg fn gn P Q=gn:=by unfold sumNeg;rw[if_neg hfg,if_neg (by omega)]
   have hv:sumVal fn gn P Q=Q-P:=by unfold sumVal;rw[if_neg hfg,if_neg (by omega)]
   have HSS:=hd' hs;have HVV:=hd' hv;rw[if_pos hPQ]at hheld;have HPQ:Hid (P≤Q):=hd' (Nat.le_of_lt hPQ);clear hs hv hfg hPQ
   go_upto_region 8 with(go_at_call 159;refine hheld.mono ?_;rintro e w7 ⟨rfl,rfl⟩)
   clear k7 k8 hheld e1;have hT1:Below w6.heap.size w6 w6.drew:=(Below.refl _ _).drew;refine wp_region_held_drew (S:=Below w2.heap.size w6) (by kernel_rfl) (hT1.mono HLE.out) (fun hS1=> ?_);refine takeS (i:=0) (d:=46) (v:=.pointer (some ⟨w1.heap.size,0,none⟩)) rfl rfl rfl (by kernel_rfl) (by kernel_rfl) (by kernel_rfl) (fun _ _ _ h=>h) (fun w' h=>by go_simp) hS1 ?_
   try simp only[Act.put,sA',sZ',sS']
   refine takeS (i:=1) (d:=47) (v:=.bool gn) rfl rfl rfl (by kernel_rfl) (by kernel_rfl) (by kernel_rfl) (fun _ _ _ h=>h) (fun w' h=>by(have c:=(HG6.out.low h HG6B.out).cell (j:=0) (v:=.bool gn) rfl;go_simp)) hS1 ?_
   try simp only[Act.put,sA',sZ',sS']
   refine takeS (i:=2) (d:=48) (v:=.slice aQ nQ cQ) rfl rfl rfl (by kernel_rfl) (by kernel_rfl) (by kernel_rfl) (fun _ _ _ h=>h) (fun w' h=>by go_simp) hS1 ?_
   try simp only[Act.put,sA',sZ',sS']
   refine takeS (i:=3) (d:=49) (v:=.slice aP nP cP) rfl rfl rfl (by kernel_rfl) (by kernel_rfl) (by kernel_rfl) (fun _ _ _ h=>h) (fun w' h=>by go_simp) hS1 ?_
   try simp only[Act.put,sA',sZ',sS']
   refine takeS (i:=5) (d:=51) (v:=.slice aD nD cD) rfl rfl rfl (by kernel_rfl) (by kernel_rfl) (by kernel_rfl) (fun _ _ _ h=>h) (fun w' h=>by go_simp) hS1 ?_
   try simp only[Act.put,sA',sZ',sS']
   refine wpAnyH_ready (rs:=[4]) (by kernel_rfl) (by simp) ?_;refine AllReadyH.cons rfl (fun K hK=> ?_) AllReadyH.nil;go_simp;refine(less_any aQ aP nQ cQ nP cP Q P _ (HNQ.out.drew) (HNP.out.drew) q2 HPQ.out).mono ?_;rintro e y1 ⟨aR,nR,cR,rfl,hNR,hbR,_⟩;have hT2:Below w6.heap.size w6 y1:=hT1.trans (hbR.mono hT1.size);refine hK.out _ _ (hT2.mono HLE.out) (fun hS2=> ?_);clear hK K
   try simp only[Act.put,List.getElem_toArray,List.getElem_cons_succ,List.getElem_cons_zero,sA',sZ',sS']
   refine takeS (i:=6) (d:=52) (v:=.agg #[.bool gn,.slice aR nR cR,.slice aD nD cD]) rfl rfl rfl (by kernel_rfl) (by kernel_rfl) (by kernel_rfl) (fun _ _ _ h=>h) (fun w' h=>by go_simp) hS2 ?_
   try simp only[Act.put,sA',sZ',sS']
   have HRX:=HRES6.out.low hT2 HRES6.out.blk;refine wpAnyH_ready (rs:=[7]) (by kernel_rfl) (by simp) ?_;refine AllReadyH.cons rfl (fun K hK=> ?_) AllReadyH.nil;refine step_into (ty:=207) (n:=3) infoFr rfl (.tmp 4) (.tmp 52) rfl rfl rfl HRX rfl (by simp[Value.oneCell']) ?_;intro wx hrx hgx;have hSx:=below_put (hT2.mono HLE.out) hgx (lR' _) (Nat.le_trans HLE.out hT2.size);refine hK.out _ _ hSx (fun hS9=> ?_);clear hK K
   try simp only[Act.put,List.getElem_toArray,List.getElem_cons_succ,List.getElem_cons_zero]
   refine wpAnyH_done (by kernel_rfl) ?_ _;have HBX:Hid (Below w.heap.size w wx):=hd' (below_put (HB6.out.trans (hT2.mono HB6.out.size)) hgx HZ.out (Nat.le_trans HB6.out.size hT2.size));have HN:=hd' hNR.len;clear hgx hSx hS9 hS1 hS2 hT1 hT2 hNR hbR HRX;go_wp2_with fail;exact bodyPost_ret (v:=.agg #[.bool gn,.slice aR nR cR,.slice aD nD cD]) (retFrac (p:=4) (by kernel_rfl) rfl hrx) rfl ⟨aR,nR,cR,_,_,_,by rw[HSS.out],by rw[HVV.out];exact HN.out,HBX.out⟩
  ·have hs:sumNeg fn gn P Q=fn:=by unfold sumNeg;rw[if_neg hfg,if_pos (by omega)]
   have hv:sumVal fn gn P Q=P-Q:=by unfold sumVal;rw[if_neg hfg,if_pos (by omega)]
   have HSS:=hd' hs;have HVV:=hd' hv;rw[if_neg hPQ]at hheld;obtain⟨h,hh⟩:∃h:Int,(if Q<P then 1 else 0)=h:=⟨_,rfl⟩;rw[hh]at hheld
   have e2:(h≥0)=True:=by
    simp
    split at hh<;>omega
   have HPQ:Hid (Q≤P):=hd' (Nat.le_of_not_lt hPQ);clear hs hv hfg hPQ hh
   go_upto_region 7 with(go_at_call 159;refine hheld.mono ?_;rintro e w7 ⟨rfl,rfl⟩)
   clear k7 k8 hheld e1 e2;have hT1:Below w6.heap.size w6 w6.drew:=(Below.refl _ _).drew;refine wp_region_held_drew (S:=Below w2.heap.size w6) (by kernel_rfl) (hT1.mono HLE.out) (fun hS1=> ?_);refine takeS (i:=0) (d:=39) (v:=.pointer (some ⟨w.heap.size,0,none⟩)) rfl rfl rfl (by kernel_rfl) (by kernel_rfl) (by kernel_rfl) (fun _ _ _ h=>h) (fun w' h=>by go_simp) hS1 ?_
   try simp only[Act.put,sA',sZ',sS']
   refine takeS (i:=1) (d:=40) (v:=.bool fn) rfl rfl rfl (by kernel_rfl) (by kernel_rfl) (by kernel_rfl) (fun _ _ _ h=>h) (fun w' h=>by(have c:=(HF6.out.low h HF6B.out).cell (j:=0) (v:=.bool fn) rfl;go_simp)) hS1 ?_
   try simp only[Act.put,sA',sZ',sS']
   refine takeS (i:=2) (d:=41) (v:=.slice aP nP cP) rfl rfl rfl (by kernel_rfl) (by kernel_rfl) (by kernel_rfl) (fun _ _ _ h=>h) (fun w' h=>by go_simp) hS1 ?_
   try simp only[Act.put,sA',sZ',sS']
   refine takeS (i:=3) (d:=42) (v:=.slice aQ nQ cQ) rfl rfl rfl (by kernel_rfl) (by kernel_rfl) (by kernel_rfl) (fun _ _ _ h=>h) (fun w' h=>by go_simp) hS1 ?_
   try simp only[Act.put,sA',sZ',sS']
   refine takeS (i:=5) (d:=44) (v:=.slice aD nD cD) rfl rfl rfl (by kernel_rfl) (by kernel_rfl) (by kernel_rfl) (fun _ _ _ h=>h) (fun w' h=>by go_simp) hS1 ?_
   try simp only[Act.put,sA',sZ',sS']
   refine wpAnyH_ready (rs:=[4]) (by kernel_rfl) (by simp) ?_;refine AllReadyH.cons rfl (fun K hK=> ?_) AllReadyH.nil;go_simp;refine(less_any aP aQ nP cP nQ cQ P Q _ (HNP.out.drew) (HNQ.out.drew) q1 HPQ.out).mono ?_;rintro e y1 ⟨aR,nR,cR,rfl,hNR,hbR,_⟩;have hT2:Below w6.heap.size w6 y1:=hT1.trans (hbR.mono hT1.size);refine hK.out _ _ (hT2.mono HLE.out) (fun hS2=> ?_);clear hK K
   try simp only[Act.put,List.getElem_toArray,List.getElem_cons_succ,List.getElem_cons_zero,sA',sZ',sS']
   refine takeS (i:=6) (d:=45) (v:=.agg #[.bool fn,.slice aR nR cR,.slice aD nD cD]) rfl rfl rfl (by kernel_rfl) (by kernel_rfl) (by kernel_rfl) (fun _ _ _ h=>h) (fun w' h=>by go_simp) hS2 ?_
   try simp only[Act.put,sA',sZ',sS']
   have HRX:=HRES6.out.low hT2 HRES6.out.blk;refine wpAnyH_ready (rs:=[7]) (by kernel_rfl) (by simp) ?_;refine AllReadyH.cons rfl (fun K hK=> ?_) AllReadyH.nil;refine step_into (ty:=207) (n:=3) infoFr rfl (.tmp 4) (.tmp 45) rfl rfl rfl HRX rfl (by simp[Value.oneCell']) ?_;intro wx hrx hgx;have hSx:=below_put (hT2.mono HLE.out) hgx (lR' _) (Nat.le_trans HLE.out hT2.size);refine hK.out _ _ hSx (fun hS9=> ?_);clear hK K
   try simp only[Act.put,List.getElem_toArray,List.getElem_cons_succ,List.getElem_cons_zero]
   refine wpAnyH_done (by kernel_rfl) ?_ _;have HBX:Hid (Below w.heap.size w wx):=hd' (below_put (HB6.out.trans (hT2.mono HB6.out.size)) hgx HZ.out (Nat.le_trans HB6.out.size hT2.size));have HN:=hd' hNR.len;clear hgx hSx hS9 hS1 hS2 hT1 hT2 hNR hbR HRX;go_wp2_with fail;exact bodyPost_ret (v:=.agg #[.bool fn,.slice aR nR cR,.slice aD nD cD]) (retFrac (p:=4) (by kernel_rfl) rfl hrx) rfl ⟨aR,nR,cR,_,_,_,by rw[HSS.out],by rw[HVV.out];exact HN.out,HBX.out⟩
end Code
end Go.Proofs.YtljhklblbafjkaaGreatDoor
namespace Go.Proofs.YtljhklblbafjkaaGreatDoor
open Go.RowKit
namespace Code
attribute [local go_sem ↓] Go.wp_at_zero Go.wp_at_succ
theorem step_allocF{ops:Array Oper}{o:Oper}{a:Act}{K:Act→World→Prop}{Q:Exit→Act→World→Prop}{X:Prop}{W:World}(hgd:o.guard=none)(ho:o.op= .alloc 207)
    (h:∀G w',RC w' G 207 3 #[.bool false,.slice none 0 0,.slice none 0 0]→W.heap.size≤G→W.grownBy w' none→K (a.put o.dst (.pointer (some ⟨G,0,none⟩))) w'):
    if Region.wanted o (yielded ops a.tmps)=true then Oper.wp Tryz.prog o a W K Q else X:=by
 have hw:Region.wanted o (yielded ops a.tmps)=true:=by simp[Region.wanted,hgd]
 rw[if_pos hw];unfold Oper.wp;simp only[execOp,ho];go_simp;exact h _ _ (RC.new _ _ _ rfl rfl) (lR' _) (World.grownBy_alloc _ _ _)
theorem diffV_eq{a b:B.Rt}(ha:1≤a.den)(hb:1≤b.den):B.diffV a b=(sumVal (decide (a.num<0)) (!decide (b.num<0)) (a.num.natAbs*b.den.natAbs) (b.num.natAbs*a.den.natAbs),sumNeg (decide (a.num<0)) (!decide (b.num<0)) (a.num.natAbs*b.den.natAbs) (b.num.natAbs*a.den.natAbs)):=by
 have e1:a.den.toNat=a.den.natAbs:=by omega
 have e2:b.den.toNat=b.den.natAbs:=by omega
 unfold B.diffV sumVal sumNeg;rw[e1,e2];split
 ·rfl
 ·split<;>rfl
def AboveOut(up:Bool)(w:World)(e:Ending)(w':World):Prop:=∃c:Int,e= .returned (.tuple #[.int .i64 c,.int .i64 0])∧(0<c↔up=true)∧Below w.heap.size w w'
set_option maxRecDepth 100000 in
set_option maxHeartbeats 2000000 in
theorem rcmp_any(x y:B.Rt)(hx:RtOk x)(hy:RtOk y)(rx:x.right=true)(ry:y.right=true)(w:World):Calls Tryz.prog 91 #[rtV x,rtV y] w (AboveOut (x.above y) w):=by
 have dx:1≤x.den:=by unfold B.Rt.right at rx;simp at rx;exact rx.1
 have dy:1≤y.den:=by unfold B.Rt.right at ry;simp at ry;exact ry.1
 have hup:=B.diff_above dx dy;rw[diffV_eq dx dy]at hup;simp only at hup;obtain⟨up,hupe⟩:∃up,x.above y=up:=⟨_,rfl⟩;rw[hupe]at hup⊢
 have r1:∀w,Calls Tryz.prog 59 #[rtV x] w fun e w'=>e= .returned (.bool true)∧Below w.heap.size w w':=fun w=>by have h:=rright_any x hx w;rw[rx]at h;exact h
 have r2:∀w,Calls Tryz.prog 59 #[rtV y] w fun e w'=>e= .returned (.bool true)∧Below w.heap.size w w':=fun w=>by have h:=rright_any y hy w;rw[ry]at h;exact h
 have HO1:=hd' (fun w=>of_frac x hx w);have HO2:=hd' (fun w=>of_frac y hy w)
 have bd:∀n:Int,B.In64 n→n.natAbs<18446744073709551616:=fun n hn=>by obtain⟨h1,h2⟩:=hn;omega
 have HBA:=hd' (bd _ hx.num);have HBB:=hd' (bd _ hx.den);have HBC:=hd' (bd _ hy.num);have HBD:=hd' (bd _ hy.den);unfold rtV at r1 r2 HO1 HO2⊢;have hrow:=RC.new #[.int .i64 x.num,.int .i64 x.den] 68 w (n:=2) rfl rfl;have hbel:Below w.heap.size w (w.alloc (.cells #[.int .i64 x.num,.int .i64 x.den] 68)):=(Below.refl _ _).alloc (lR' _) _;obtain⟨w1,hw1⟩:∃w1,w.alloc (.cells #[.int .i64 x.num,.int .i64 x.den] 68)=w1:=⟨_,rfl⟩;rw[hw1]at hrow hbel;have hrow2:=RC.new #[.int .i64 y.num,.int .i64 y.den] 68 w1 (n:=2) rfl rfl;have hb12:Below w1.heap.size w1 (w1.alloc (.cells #[.int .i64 y.num,.int .i64 y.den] 68)):=(Below.refl _ _).alloc (lR' _) _;obtain⟨w2,hw2⟩:∃w2,w1.alloc (.cells #[.int .i64 y.num,.int .i64 y.den] 68)=w2:=⟨_,rfl⟩;rw[hw2]at hrow2 hb12
 have k0:w2.cell? ⟨w.heap.size,0,none⟩=some (.int .i64 x.num):=(hrow.low hb12 hrow.blk).cell (j:=0) rfl;have k1:w2.cell? ⟨w.heap.size,1,none⟩=some (.int .i64 x.den):=(hrow.low hb12 hrow.blk).cell (j:=1) rfl;have HR1:=hd' (hrow.low hb12 hrow.blk);have HR2:=hd' hrow2;have HB2:=hd' (hbel.trans (hb12.mono hbel.size));have HUP:=hd' hup;clear hrow hbel hrow2 hb12 hup hupe bd dx dy rx ry hx hy;go_enter Tryz.func91,Tryz.ntmps91
 go_upto_region 1 with fail
 try rw[hw1]
 try rw[hw2]
 clear hw1 hw2;go_wp2_with fail;refine(r1 _).mono ?_;rintro e wa ⟨rfl,hba⟩;have k2:wa.cell? ⟨w1.heap.size,0,none⟩=some (.int .i64 y.num):=(HR2.out.low hba HR2.out.blk).cell (j:=0) rfl;have k3:wa.cell? ⟨w1.heap.size,1,none⟩=some (.int .i64 y.den):=(HR2.out.low hba HR2.out.blk).cell (j:=1) rfl;clear k0 k1;go_wp2_with fail;refine(r2 _).mono ?_;rintro e wb ⟨rfl,hbb⟩;clear k2 k3
 go_upto_region 3 with fail
 have hb2b:Below w2.heap.size w2 wb:=hba.trans (hbb.mono hba.size);have HB3:=hd' (HB2.out.trans (hb2b.mono HB2.out.size));have HS1:=hd' (HR1.out.low hb2b HR1.out.blk);have HS2:=hd' (HR2.out.low hb2b HR2.out.blk);clear hba hbb hb2b r1 r2 HR1 HR2 HB2
 go_cut [6]from 15 to 20 (fun p wx=>∃(X nR:Nat) (aR:Option Addr) (cR:Nat) (vR:Option Addr) (mR dR:Nat),p= .pointer (some ⟨X,0,none⟩)∧RC wx X 207 3 #[.bool (sumNeg (decide (x.num<0)) (!decide (y.num<0)) (x.num.natAbs*y.den.natAbs) (y.num.natAbs*x.den.natAbs)),.slice aR nR cR,.slice vR mR dR]∧nR=(B.dig (sumVal (decide (x.num<0)) (!decide (y.num<0)) (x.num.natAbs*y.den.natAbs) (y.num.natAbs*x.den.natAbs))).length∧Below wb.heap.size wb wx)
 case first=>
  refine wp_region_held_drew (S:=Below wb.heap.size wb) (by kernel_rfl) (Below.refl _ _).drew (fun hS1=> ?_);refine takeM (i:=0) (d:=15) 68 _ w.heap.size 0 #[.int .i64 x.num,.int .i64 x.den] _ rfl rfl rfl rfl (by rfl) Tryz.underlying68 rfl (by kernel_rfl) (by kernel_rfl) (by kernel_rfl) (by kernel_rfl) (fun _ _ _ h=>h) (fun w' h=>RC.range (HS1.out.low h HS1.out.blk)) hS1 ?_
  try simp only[Act.put,sA',sZ',sS']
  refine takeM (i:=2) (d:=17) 68 _ w1.heap.size 0 #[.int .i64 y.num,.int .i64 y.den] _ rfl rfl rfl rfl (by rfl) Tryz.underlying68 rfl (by kernel_rfl) (by kernel_rfl) (by kernel_rfl) (by kernel_rfl) (fun _ _ _ h=>h) (fun w' h=>RC.range (HS2.out.low h HS2.out.blk)) hS1 ?_
  try simp only[Act.put,sA',sZ',sS']
  refine wpAnyH_ready (rs:=[1,6]) (by kernel_rfl) (by simp) ?_;refine AllReadyH.cons rfl (fun K hK=> ?_) (AllReadyH.cons rfl (fun K hK=> ?_) AllReadyH.nil)
  ·go_simp
   refine(HO1.out _).mono ?_;rintro e y1 ⟨C1,rfl,hC1,hb1⟩;have hTy1:Below wb.heap.size wb y1:=hS1.trans (hb1.mono hS1.size);refine hK.out _ _ hTy1 (fun hS9=> ?_);clear hK K hS9
   try simp only[Act.put,List.getElem_toArray,List.getElem_cons_succ,List.getElem_cons_zero,sA',sZ',sS']
   refine wpAnyH_ready (rs:=[3,6]) (by kernel_rfl) (by simp) ?_;refine AllReadyH.cons rfl (fun K hK=> ?_) (AllReadyH.cons rfl (fun K hK=> ?_) AllReadyH.nil)
   ·go_simp
    refine(HO2.out _).mono ?_;rintro e y2 ⟨C2,rfl,hC2,hb2⟩;have hTy2:Below wb.heap.size wb y2:=hTy1.trans (hb2.mono hTy1.size);refine hK.out _ _ hTy2 (fun hS9=> ?_);clear hK K hS9
    try simp only[Act.put,List.getElem_toArray,List.getElem_cons_succ,List.getElem_cons_zero,sA',sZ',sS']
    replace hC1:=hC1.below hb2 (lR' _);refine wpAnyH_ready (rs:=[4,6]) (by kernel_rfl) (by simp) ?_;refine AllReadyH.cons rfl (fun K hK=> ?_) (AllReadyH.cons rfl (fun K hK=> ?_) AllReadyH.nil)
    ·go_simp
     refine(opposite_any C2 _ _ _ _ hC2).mono ?_;rintro e y3 ⟨C3,rfl,hC3,hb3⟩;have hTy3:Below wb.heap.size wb y3:=hTy2.trans (hb3.mono hTy2.size);refine hK.out _ _ hTy3 (fun hS9=> ?_);clear hK K hS9
     try simp only[Act.put,List.getElem_toArray,List.getElem_cons_succ,List.getElem_cons_zero,sA',sZ',sS']
     replace hC1:=hC1.below hb3 (lR' _);refine wpAnyH_ready (rs:=[5,6]) (by kernel_rfl) (by simp) ?_;refine AllReadyH.cons rfl (fun K hK=> ?_) (AllReadyH.cons rfl (fun K hK=> ?_) AllReadyH.nil)
     ·go_simp
      refine(sum_any C1 C3 _ _ _ _ _ _ _ hC1 hC3 HBA.out HBB.out HBC.out HBD.out).mono ?_;rintro e y4 ⟨aR,nR,cR,vR,mR,dR,rfl,hlen,hb4⟩;have hTy4:Below wb.heap.size wb y4:=hTy3.trans (hb4.mono hTy3.size);refine hK.out _ _ hTy4 (fun hS9=> ?_);clear hK K hS9
      try simp only[Act.put,List.getElem_toArray,List.getElem_cons_succ,List.getElem_cons_zero,sA',sZ',sS']
      refine wpAnyH_ready (rs:=[6]) (by kernel_rfl) (by simp) ?_;refine AllReadyH.cons rfl (fun K hK=> ?_) AllReadyH.nil;refine step_allocF rfl rfl ?_;intro X ya hX hXs hgA;have hXl:wb.heap.size≤X:=Nat.le_trans hTy4.size hXs;have hbA:Below y4.heap.size y4 ya:=(Below.refl _ _).grown hgA (lR' _) (fun k hk=>by cases hk);have hTA:Below wb.heap.size wb ya:=hTy4.trans (hbA.mono hTy4.size);refine hK.out _ _ hTA (fun hS9=> ?_);clear hK K hS9
      try simp only[Act.put,List.getElem_toArray,List.getElem_cons_succ,List.getElem_cons_zero,sA',sZ',sS']
      refine wpAnyH_ready (rs:=[7]) (by kernel_rfl) (by simp) ?_;refine AllReadyH.cons rfl (fun K hK=> ?_) AllReadyH.nil;refine step_into (ty:=207) (n:=3) infoFr rfl (.tmp 6) (.tmp 20) rfl rfl rfl hX rfl (by simp[Value.oneCell']) ?_;intro wx hrx hgx;have hbx:=below_put hTA hgx hXl hTA.size;refine hK.out _ _ hbx (fun hS9=> ?_);clear hK K
      try simp only[Act.put,List.getElem_toArray,List.getElem_cons_succ,List.getElem_cons_zero]
      refine wpAnyH_done (by kernel_rfl) ?_ _;clear hS9 hgx;go_wp2_with fail;go_meet
      case rel=>exact⟨X,nR,aR,cR,vR,mR,dR,rfl,hrx,hlen,hbx⟩
     ·refine step_allocF rfl rfl ?_
      intro X ya hX hXs hgA;have hXl:wb.heap.size≤X:=Nat.le_trans hTy3.size hXs;have hbA:Below y3.heap.size y3 ya:=(Below.refl _ _).grown hgA (lR' _) (fun k hk=>by cases hk);have hTA:Below wb.heap.size wb ya:=hTy3.trans (hbA.mono hTy3.size);refine hK.out _ _ hTA (fun hS9=> ?_);clear hK K hS9
      try simp only[Act.put,List.getElem_toArray,List.getElem_cons_succ,List.getElem_cons_zero,sA',sZ',sS']
      replace hC1:=hC1.below hbA (lR' _);replace hC3:=hC3.below hbA (lR' _);refine wpAnyH_ready (rs:=[5]) (by kernel_rfl) (by simp) ?_;refine AllReadyH.cons rfl (fun K hK=> ?_) AllReadyH.nil;go_simp;refine(sum_any C1 C3 _ _ _ _ _ _ _ hC1 hC3 HBA.out HBB.out HBC.out HBD.out).mono ?_;rintro e y4 ⟨aR,nR,cR,vR,mR,dR,rfl,hlen,hb4⟩;have hTy4:Below wb.heap.size wb y4:=hTA.trans (hb4.mono hTA.size);refine hK.out _ _ hTy4 (fun hS9=> ?_);clear hK K hS9
      try simp only[Act.put,List.getElem_toArray,List.getElem_cons_succ,List.getElem_cons_zero,sA',sZ',sS']
      replace hX:=hX.low hb4 hX.blk;refine wpAnyH_ready (rs:=[7]) (by kernel_rfl) (by simp) ?_;refine AllReadyH.cons rfl (fun K hK=> ?_) AllReadyH.nil;refine step_into (ty:=207) (n:=3) infoFr rfl (.tmp 6) (.tmp 20) rfl rfl rfl hX rfl (by simp[Value.oneCell']) ?_;intro wx hrx hgx;have hbx:=below_put hTy4 hgx hXl hTy4.size;refine hK.out _ _ hbx (fun hS9=> ?_);clear hK K
      try simp only[Act.put,List.getElem_toArray,List.getElem_cons_succ,List.getElem_cons_zero]
      refine wpAnyH_done (by kernel_rfl) ?_ _;clear hS9 hgx;go_wp2_with fail;go_meet
      case rel=>exact⟨X,nR,aR,cR,vR,mR,dR,rfl,hrx,hlen,hbx⟩
    ·refine step_allocF rfl rfl ?_
     intro X ya hX hXs hgA;have hXl:wb.heap.size≤X:=Nat.le_trans hTy2.size hXs;have hbA:Below y2.heap.size y2 ya:=(Below.refl _ _).grown hgA (lR' _) (fun k hk=>by cases hk);have hTA:Below wb.heap.size wb ya:=hTy2.trans (hbA.mono hTy2.size);refine hK.out _ _ hTA (fun hS9=> ?_);clear hK K hS9
     try simp only[Act.put,List.getElem_toArray,List.getElem_cons_succ,List.getElem_cons_zero,sA',sZ',sS']
     replace hC1:=hC1.below hbA (lR' _);replace hC2:=hC2.below hbA (lR' _);refine wpAnyH_ready (rs:=[4]) (by kernel_rfl) (by simp) ?_;refine AllReadyH.cons rfl (fun K hK=> ?_) AllReadyH.nil;go_simp;refine(opposite_any C2 _ _ _ _ hC2).mono ?_;rintro e y3 ⟨C3,rfl,hC3,hb3⟩;have hTy3:Below wb.heap.size wb y3:=hTA.trans (hb3.mono hTA.size);refine hK.out _ _ hTy3 (fun hS9=> ?_);clear hK K hS9
     try simp only[Act.put,List.getElem_toArray,List.getElem_cons_succ,List.getElem_cons_zero,sA',sZ',sS']
     replace hC1:=hC1.below hb3 (lR' _);replace hX:=hX.low hb3 hX.blk;refine wpAnyH_ready (rs:=[5]) (by kernel_rfl) (by simp) ?_;refine AllReadyH.cons rfl (fun K hK=> ?_) AllReadyH.nil;go_simp;refine(sum_any C1 C3 _ _ _ _ _ _ _ hC1 hC3 HBA.out HBB.out HBC.out HBD.out).mono ?_;rintro e y4 ⟨aR,nR,cR,vR,mR,dR,rfl,hlen,hb4⟩;have hTy4:Below wb.heap.size wb y4:=hTy3.trans (hb4.mono hTy3.size);refine hK.out _ _ hTy4 (fun hS9=> ?_);clear hK K hS9
     try simp only[Act.put,List.getElem_toArray,List.getElem_cons_succ,List.getElem_cons_zero,sA',sZ',sS']
     replace hX:=hX.low hb4 hX.blk;refine wpAnyH_ready (rs:=[7]) (by kernel_rfl) (by simp) ?_;refine AllReadyH.cons rfl (fun K hK=> ?_) AllReadyH.nil;refine step_into (ty:=207) (n:=3) infoFr rfl (.tmp 6) (.tmp 20) rfl rfl rfl hX rfl (by simp[Value.oneCell']) ?_;intro wx hrx hgx;have hbx:=below_put hTy4 hgx hXl hTy4.size;refine hK.out _ _ hbx (fun hS9=> ?_);clear hK K
     try simp only[Act.put,List.getElem_toArray,List.getElem_cons_succ,List.getElem_cons_zero]
     refine wpAnyH_done (by kernel_rfl) ?_ _;clear hS9 hgx;go_wp2_with fail;go_meet
     case rel=>exact⟨X,nR,aR,cR,vR,mR,dR,rfl,hrx,hlen,hbx⟩
   ·refine step_allocF rfl rfl ?_
    intro X ya hX hXs hgA;have hXl:wb.heap.size≤X:=Nat.le_trans hTy1.size hXs;have hbA:Below y1.heap.size y1 ya:=(Below.refl _ _).grown hgA (lR' _) (fun k hk=>by cases hk);have hTA:Below wb.heap.size wb ya:=hTy1.trans (hbA.mono hTy1.size);refine hK.out _ _ hTA (fun hS9=> ?_);clear hK K hS9
    try simp only[Act.put,List.getElem_toArray,List.getElem_cons_succ,List.getElem_cons_zero,sA',sZ',sS']
    replace hC1:=hC1.below hbA (lR' _);refine wpAnyH_ready (rs:=[3]) (by kernel_rfl) (by simp) ?_;refine AllReadyH.cons rfl (fun K hK=> ?_) AllReadyH.nil;go_simp;refine(HO2.out _).mono ?_;rintro e y2 ⟨C2,rfl,hC2,hb2⟩;have hTy2:Below wb.heap.size wb y2:=hTA.trans (hb2.mono hTA.size);refine hK.out _ _ hTy2 (fun hS9=> ?_);clear hK K hS9
    try simp only[Act.put,List.getElem_toArray,List.getElem_cons_succ,List.getElem_cons_zero,sA',sZ',sS']
    replace hC1:=hC1.below hb2 (lR' _);replace hX:=hX.low hb2 hX.blk;refine wpAnyH_ready (rs:=[4]) (by kernel_rfl) (by simp) ?_;refine AllReadyH.cons rfl (fun K hK=> ?_) AllReadyH.nil;go_simp;refine(opposite_any C2 _ _ _ _ hC2).mono ?_;rintro e y3 ⟨C3,rfl,hC3,hb3⟩;have hTy3:Below wb.heap.size wb y3:=hTy2.trans (hb3.mono hTy2.size);refine hK.out _ _ hTy3 (fun hS9=> ?_);clear hK K hS9
    try simp only[Act.put,List.getElem_toArray,List.getElem_cons_succ,List.getElem_cons_zero,sA',sZ',sS']
    replace hC1:=hC1.below hb3 (lR' _);replace hX:=hX.low hb3 hX.blk;refine wpAnyH_ready (rs:=[5]) (by kernel_rfl) (by simp) ?_;refine AllReadyH.cons rfl (fun K hK=> ?_) AllReadyH.nil;go_simp;refine(sum_any C1 C3 _ _ _ _ _ _ _ hC1 hC3 HBA.out HBB.out HBC.out HBD.out).mono ?_;rintro e y4 ⟨aR,nR,cR,vR,mR,dR,rfl,hlen,hb4⟩;have hTy4:Below wb.heap.size wb y4:=hTy3.trans (hb4.mono hTy3.size);refine hK.out _ _ hTy4 (fun hS9=> ?_);clear hK K hS9
    try simp only[Act.put,List.getElem_toArray,List.getElem_cons_succ,List.getElem_cons_zero,sA',sZ',sS']
    replace hX:=hX.low hb4 hX.blk;refine wpAnyH_ready (rs:=[7]) (by kernel_rfl) (by simp) ?_;refine AllReadyH.cons rfl (fun K hK=> ?_) AllReadyH.nil;refine step_into (ty:=207) (n:=3) infoFr rfl (.tmp 6) (.tmp 20) rfl rfl rfl hX rfl (by simp[Value.oneCell']) ?_;intro wx hrx hgx;have hbx:=below_put hTy4 hgx hXl hTy4.size;refine hK.out _ _ hbx (fun hS9=> ?_);clear hK K
    try simp only[Act.put,List.getElem_toArray,List.getElem_cons_succ,List.getElem_cons_zero]
    refine wpAnyH_done (by kernel_rfl) ?_ _;clear hS9 hgx;go_wp2_with fail;go_meet
    case rel=>exact⟨X,nR,aR,cR,vR,mR,dR,rfl,hrx,hlen,hbx⟩
  ·refine step_allocF rfl rfl ?_
   intro X ya hX hXs hgA;have hXl:wb.heap.size≤X:=Nat.le_trans hS1.size hXs;have hbA:Below wb.drew.heap.size wb.drew ya:=(Below.refl _ _).grown hgA (lR' _) (fun k hk=>by cases hk);have hTA:Below wb.heap.size wb ya:=hS1.trans (hbA.mono hS1.size);refine hK.out _ _ hTA (fun hS9=> ?_);clear hK K hS9
   try simp only[Act.put,List.getElem_toArray,List.getElem_cons_succ,List.getElem_cons_zero,sA',sZ',sS']
   refine wpAnyH_ready (rs:=[1]) (by kernel_rfl) (by simp) ?_;refine AllReadyH.cons rfl (fun K hK=> ?_) AllReadyH.nil;go_simp;refine(HO1.out _).mono ?_;rintro e y1 ⟨C1,rfl,hC1,hb1⟩;have hTy1:Below wb.heap.size wb y1:=hTA.trans (hb1.mono hTA.size);refine hK.out _ _ hTy1 (fun hS9=> ?_);clear hK K hS9
   try simp only[Act.put,List.getElem_toArray,List.getElem_cons_succ,List.getElem_cons_zero,sA',sZ',sS']
   replace hX:=hX.low hb1 hX.blk;refine wpAnyH_ready (rs:=[3]) (by kernel_rfl) (by simp) ?_;refine AllReadyH.cons rfl (fun K hK=> ?_) AllReadyH.nil;go_simp;refine(HO2.out _).mono ?_;rintro e y2 ⟨C2,rfl,hC2,hb2⟩;have hTy2:Below wb.heap.size wb y2:=hTy1.trans (hb2.mono hTy1.size);refine hK.out _ _ hTy2 (fun hS9=> ?_);clear hK K hS9
   try simp only[Act.put,List.getElem_toArray,List.getElem_cons_succ,List.getElem_cons_zero,sA',sZ',sS']
   replace hC1:=hC1.below hb2 (lR' _);replace hX:=hX.low hb2 hX.blk;refine wpAnyH_ready (rs:=[4]) (by kernel_rfl) (by simp) ?_;refine AllReadyH.cons rfl (fun K hK=> ?_) AllReadyH.nil;go_simp;refine(opposite_any C2 _ _ _ _ hC2).mono ?_;rintro e y3 ⟨C3,rfl,hC3,hb3⟩;have hTy3:Below wb.heap.size wb y3:=hTy2.trans (hb3.mono hTy2.size);refine hK.out _ _ hTy3 (fun hS9=> ?_);clear hK K hS9
   try simp only[Act.put,List.getElem_toArray,List.getElem_cons_succ,List.getElem_cons_zero,sA',sZ',sS']
   replace hC1:=hC1.below hb3 (lR' _);replace hX:=hX.low hb3 hX.blk;refine wpAnyH_ready (rs:=[5]) (by kernel_rfl) (by simp) ?_;refine AllReadyH.cons rfl (fun K hK=> ?_) AllReadyH.nil;go_simp;refine(sum_any C1 C3 _ _ _ _ _ _ _ hC1 hC3 HBA.out HBB.out HBC.out HBD.out).mono ?_;rintro e y4 ⟨aR,nR,cR,vR,mR,dR,rfl,hlen,hb4⟩;have hTy4:Below wb.heap.size wb y4:=hTy3.trans (hb4.mono hTy3.size);refine hK.out _ _ hTy4 (fun hS9=> ?_);clear hK K hS9
   try simp only[Act.put,List.getElem_toArray,List.getElem_cons_succ,List.getElem_cons_zero,sA',sZ',sS']
   replace hX:=hX.low hb4 hX.blk;refine wpAnyH_ready (rs:=[7]) (by kernel_rfl) (by simp) ?_;refine AllReadyH.cons rfl (fun K hK=> ?_) AllReadyH.nil;refine step_into (ty:=207) (n:=3) infoFr rfl (.tmp 6) (.tmp 20) rfl rfl rfl hX rfl (by simp[Value.oneCell']) ?_;intro wx hrx hgx;have hbx:=below_put hTy4 hgx hXl hTy4.size;refine hK.out _ _ hbx (fun hS9=> ?_);clear hK K
   try simp only[Act.put,List.getElem_toArray,List.getElem_cons_succ,List.getElem_cons_zero]
   refine wpAnyH_done (by kernel_rfl) ?_ _;clear hS9 hgx;go_wp2_with fail;go_meet
   case rel=>exact⟨X,nR,aR,cR,vR,mR,dR,rfl,hrx,hlen,hbx⟩
 case rest=>
  obtain⟨X,nR,aR,cR,vR,mR,dR,rfl,hrx,hlen,hbx⟩:=hcut;obtain⟨v,hv⟩:∃v,sumVal (decide (x.num<0)) (!decide (y.num<0)) (x.num.natAbs*y.den.natAbs) (y.num.natAbs*x.den.natAbs)=v:=⟨_,rfl⟩;obtain⟨ng,hng⟩:∃ng,sumNeg (decide (x.num<0)) (!decide (y.num<0)) (x.num.natAbs*y.den.natAbs) (y.num.natAbs*x.den.natAbs)=ng:=⟨_,rfl⟩;have hup:=HUP.out;rw[hv,hng]at hup;rw[hng]at hrx;rw[hv]at hlen;have HBX:=hd' (HB3.out.trans (hbx.mono HB3.out.size));have c0:wc.cell? ⟨X,0,none⟩=some (.bool ng):=hrx.cell (j:=0) rfl;have c1:wc.cell? ⟨X,1,none⟩=some (.slice aR nR cR):=hrx.cell (j:=1) rfl;clear hv hng hrx hbx HUP
  by_cases h0:v=0
  ·subst h0
   have e0:((nR:Int)==0)=true:=by rw[hlen,B.dig_zero];rfl
   have HU:Hid (up=false):=hd' (by rw[←hup];simp);clear hlen hup;go_wp2_with fail;go_ret2;exact⟨0,rfl,by rw[HU.out];simp,HBX.out⟩
  ·have e0:((nR:Int)==0)=false:=by
     have:(B.dig v).length≠0:=fun h=>h0 (B.dig_nil.1 (List.eq_nil_of_length_eq_zero h))
     simp;omega
   clear hlen
   cases ng with
   | true=>
    have HU:Hid (up=false):=hd' (by rw[←hup];simp);clear hup h0;go_wp2_with fail;go_ret2;exact⟨-1,rfl,by rw[HU.out];simp,HBX.out⟩
   | false=>
    have HU:Hid (up=true):=hd' (by rw[←hup];simp[h0]);clear hup h0;go_wp2_with fail;go_ret2;exact⟨1,rfl,by rw[HU.out];simp,HBX.out⟩
theorem above_any(x y:B.Rt)(hx:RtOk x)(hy:RtOk y)(rx:x.right=true)(ry:y.right=true)(w:World):Calls Tryz.prog 60 #[rtV x,rtV y] w (fun e w'=>e= .returned (.bool (x.above y))∧Below w.heap.size w w'):=by
 have hc:=fun w=>rcmp_any x y hx hy rx ry w
 obtain⟨up,hup⟩:∃up,x.above y=up:=⟨_,rfl⟩;rw[hup]at hc⊢;unfold rtV at hc⊢;clear hup rx ry hx hy;have hrow:=RC.new #[.int .i64 x.num,.int .i64 x.den] 68 w (n:=2) rfl rfl;have hbel:Below w.heap.size w (w.alloc (.cells #[.int .i64 x.num,.int .i64 x.den] 68)):=(Below.refl _ _).alloc (lR' _) _;obtain⟨w1,hw1⟩:∃w1,w.alloc (.cells #[.int .i64 x.num,.int .i64 x.den] 68)=w1:=⟨_,rfl⟩;rw[hw1]at hrow hbel;have hrow2:=RC.new #[.int .i64 y.num,.int .i64 y.den] 68 w1 (n:=2) rfl rfl;have hb12:Below w1.heap.size w1 (w1.alloc (.cells #[.int .i64 y.num,.int .i64 y.den] 68)):=(Below.refl _ _).alloc (lR' _) _;obtain⟨w2,hw2⟩:∃w2,w1.alloc (.cells #[.int .i64 y.num,.int .i64 y.den] 68)=w2:=⟨_,rfl⟩;rw[hw2]at hrow2 hb12;have k0:w2.cell? ⟨w.heap.size,0,none⟩=some (.int .i64 x.num):=(hrow.low hb12 hrow.blk).cell (j:=0) rfl
 have k1:w2.cell? ⟨w.heap.size,1,none⟩=some (.int .i64 x.den):=(hrow.low hb12 hrow.blk).cell (j:=1) rfl;have k2:w2.cell? ⟨w1.heap.size,0,none⟩=some (.int .i64 y.num):=hrow2.cell (j:=0) rfl;have k3:w2.cell? ⟨w1.heap.size,1,none⟩=some (.int .i64 y.den):=hrow2.cell (j:=1) rfl;have HB2:=hd' (hbel.trans (hb12.mono hbel.size));clear hrow hbel hrow2 hb12;go_enter Tryz.func60,Tryz.ntmps60
 go_upto_region 1 with fail
 try rw[hw1]
 try rw[hw2]
 clear hw1 hw2;go_wp2_with (go_at_call 91;refine(hc _).mono ?_;rintro e w3 ⟨c,rfl,hcu,hb3⟩;have HCU:=hd' hcu;clear hcu);go_ret;refine⟨ret_bool ?_,HB2.out.trans (hb3.mono HB2.out.size)⟩;rw[Bool.eq_iff_iff,←HCU.out];simp
end Code
end Go.Proofs.YtljhklblbafjkaaGreatDoor
