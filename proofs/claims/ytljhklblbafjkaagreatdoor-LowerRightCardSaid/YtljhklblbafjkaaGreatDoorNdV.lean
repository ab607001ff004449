/- busbarkit: whether a signal was kept. -/
import Derived.Test.YtljhklblbafjkaaGreatDoorNdQ
import Derived.Test.YtljhklblbafjkaaGreatDoorErrQ
import Derived.Deep.Cut
import Derived.Deep.DeepCutAuto
import Derived.Deep.CutBlock
import Derived.Deep.RegionHeld3
import Derived.StillTailTactics
import Derived.RegionTactic
import Derived.Deep.DrawnRows
open Go.Lib renaming hid→hd'
open Nat renaming le_refl→lR'
open List renaming setIfInBounds_toArray→sA',set_cons_zero→sZ',set_cons_succ→sS'
namespace Go.Proofs.YtljhklblbafjkaaGreatDoor
open Go.RowKit
namespace Code
attribute [local go_sem ↓] Go.wp_at_zero Go.wp_at_succ
def TrueOut(w:World)(e:Ending)(w':World):Prop:=e= .returned (.bool true)∧Below w.heap.size w w'
set_option maxRecDepth 100000 in
set_option maxHeartbeats 12800000 in
theorem keptSignal_any(s:B.Sig)(tv:Value)(a:Option Addr)(cap:Nat)(w:World)(ht:ToLent w tv s.dest)(hl:ListAt w a s.dest.length (s.dest.map Value.string))(hn:s.dest.length*16≤140737488351232):
    Calls Tryz.prog 71 #[.agg (sigC s tv),.agg (sigC s (.slice a s.dest.length cap))] w (TrueOut w):=by
 obtain⟨base,ta,tc,rfl,ho⟩:=ht;have HO:=hd' ho;have HL:=hd' hl;clear ho hl;have HBA:=hd' ((Below.refl w.heap.size w).alloc (lR' _) (.cells (sigC s (.slice ta s.dest.length tc)) 71));have HBB:=hd' ((Below.refl _ (w.alloc (.cells (sigC s (.slice ta s.dest.length tc)) 71))).alloc (lR' _) (.cells (sigC s (.slice a s.dest.length cap)) 71));unfold sigC at HBA HBB⊢;go_enter Tryz.func71,Tryz.ntmps71;go_wp2_with fail;refine(One.keptT_any ta tc a s.dest.length cap base s.dest _ ((HO.out.kept HBA.out).kept HBB.out) ((HL.out.below HBA.out (lR' _)).below HBB.out (lR' _)) hn).mono ?_;rintro e w3 ⟨rfl,hb3⟩;have HB3:Hid (Below w.heap.size w w3):=hd' ((HBA.out.trans (HBB.out.mono HBA.out.size)).trans (hb3.mono (Nat.le_trans HBA.out.size HBB.out.size)));clear hb3 HBA HBB;go_wp2_with fail;go_ret
 exact⟨rfl,HB3.out⟩
end Code
end Go.Proofs.YtljhklblbafjkaaGreatDoor
namespace Go.Proofs.YtljhklblbafjkaaGreatDoor
open Go.RowKit
namespace Code
attribute [local go_sem ↓] Go.wp_at_zero Go.wp_at_succ
structure LentAt(w:World)(ao:Option Addr)(n cap:Nat)(l:List B.Sig):Prop where
 own:∃base L,OwnSg w base ao (n+16) cap (L++List.replicate 16 markSg)∧L.map (·.1)=l∧∀p∈L,ToLent w p.2 p.1.dest
theorem LentAt.below{N:Nat}{w w':World}{ao:Option Addr}{n cap:Nat}{l:List B.Sig}(h:LentAt w ao n cap l)(hb:Below N w w')(hN:w.heap.size≤N):LentAt w' ao n cap l:=by
 obtain⟨base,L,h1,h2,h3⟩:=h.own;have hb2:Below w.heap.size w w':=hb.mono hN;exact⟨base,L,h1.kept hb2,h2,fun p hp=>(h3 p hp).below hb2 (lR' _)⟩
theorem LentAt.capLe{w:World}{ao:Option Addr}{n cap:Nat}{l:List B.Sig}(h:LentAt w ao n cap l):n+16≤cap:=by
 obtain⟨base,L,h1,_⟩:=h.own;exact h1.capLe
theorem LentAt.capMax{w:World}{ao:Option Addr}{n cap:Nat}{l:List B.Sig}(h:LentAt w ao n cap l):cap≤9223372036854775807:=by
 obtain⟨base,L,h1,_⟩:=h.own;exact h1.capMax
theorem LentAt.blk{w:World}{ao:Option Addr}{n cap:Nat}{l:List B.Sig}(h:LentAt w ao n cap l):∃g,ao=some ⟨g,0,none⟩∧g<w.heap.size:=by
 obtain⟨base,L,h1,_⟩:=h.own;rcases h1.form with⟨_,h0,_⟩ | ⟨g,e,_,hl,_⟩
 ·omega
 ·exact⟨g,e,hl⟩
theorem LentAt.len{w:World}{ao:Option Addr}{n cap:Nat}{l:List B.Sig}(h:LentAt w ao n cap l):n=l.length:=by
 obtain⟨base,L,h1,h2,_⟩:=h.own;have:=h1.len;rw[List.length_append,List.length_replicate]at this;rw[←h2,List.length_map];omega
theorem LentAt.sig{w:World}{g n cap:Nat}{l:List B.Sig}(h:LentAt w (some ⟨g,0,none⟩) n cap l){k:Nat}{s:B.Sig}(hs:l[k]? =some s):∃tv,w.rangeAt g (k*19) (sigC s tv).toList∧ToLent w tv s.dest:=by
 have hn:=h.len;obtain⟨base,L,h1,h2,h3⟩:=h.own;rw[←h2,List.getElem?_map]at hs;obtain⟨p,hp,rfl⟩:=Option.map_eq_some_iff.1 hs;have hk:=(List.getElem?_eq_some_iff.1 hp).1;refine⟨p.2,fun j v hv=> ?_,h3 p (List.mem_of_getElem? hp)⟩;rw[Array.getElem?_toList]at hv
 have hj:j<19:=by have:=(Array.getElem?_eq_some_iff.1 hv).1;simpa[sigC]using this
 rw[h1.cell (by rw[List.getElem?_append_left hk];exact hp) hj];exact hv
theorem LentAt.mark{w:World}{g n cap:Nat}{l:List B.Sig}(h:LentAt w (some ⟨g,0,none⟩) n cap l){k:Nat}(h1:n≤k)(h2:k<n+16):w.cell? ⟨g,k*19+5,none⟩=some (.int .i64 (-7)):=by
 have hn:=h.len;obtain⟨base,L,h3,h4,_⟩:=h.own
 have hL:L.length=n:=by rw[hn,←h4,List.length_map]
 have:=h3.cell (i:=k) (j:=5) (p:=markSg) (by rw[List.getElem?_append_right (by omega),List.getElem?_replicate,if_pos (by omega)]) (by omega);rw[this];rfl
set_option maxRecDepth 100000 in
set_option maxHeartbeats 12800000 in
theorem keptSignals_any(ao:Option Addr)(cap':Nat)(sa:Option Addr)(n cap:Nat)(l:List B.Sig)(w:World)(hl:LentAt w ao n cap' l)(hs:SigsAt w sa n l)(hto:∀s∈l,s.dest.length*16≤140737488351232):
    Calls Tryz.prog 45 #[.slice ao n cap',.slice sa n cap] w (TrueOut w):=by
 have hc:=hl.capLe;have hm:=hl.capMax;obtain⟨g,rfl,hg⟩:=hl.blk;have HL:=hd' hl;have HS:=hd' hs;have HN:=hd' hs.len;have HTO:=hd' hto;clear hl hs hto;go_enter Tryz.func45,Tryz.ntmps45;go_wp2_with fail
 go_loopw [7] (fun i wr=>∃k:Nat,k≤n∧i= .int .i64 (k:Int)∧Below w.heap.size w wr) (fun i _=>n-(intOf i).toNat)
 case atStart=>exact⟨0,by omega,rfl,Below.refl _ _⟩
 case round=>
  obtain⟨k,hk,rfl,hbr⟩:=hrel;have HBR:=hd' hbr;have hz:w.heap.size≤wr.heap.size:=hbr.size;clear hbr
  by_cases hlt:k<n
  ·have hx:l[k]? =some (l[k]'(by have:=HN.out;omega)):=List.getElem?_eq_getElem _
   generalize l[k]'(by have:=HN.out;omega)=s at hx;obtain⟨b1,o1,rfl,hl1,a1,n1,c1,hrow,hto,hn1⟩:=HS.out.at_ k s hx
   obtain rfl:n1=s.dest.length:=by simpa using hto.len
   obtain⟨tv,hrg,htl⟩:=HL.out.sig hx;have HRB:=hd' (cells_below hrow HBR.out hl1);have HRG:=hd' (cells_below hrg HBR.out hg)
   have hks:=fun(wz:World) (hb:Below wr.heap.size wr wz)=>keptSignal_any s tv a1 c1 wz (htl.below (HBR.out.trans (hb.mono hz)) (lR' _)) (hto.below (HBR.out.trans (hb.mono hz)) (lR' _)) (HTO.out s (List.mem_of_getElem? hx))
   have HKS:=hd' hks
   have q0:(0:Int)≤(k:Int):=by omega
   have q1:(k:Int)<n:=by omega
   have q2:(k:Int)<(n:Int)+16:=by omega
   have hgw:g<wr.heap.size:=Nat.lt_of_lt_of_le hg hz;have hbw:b1<wr.heap.size:=Nat.lt_of_lt_of_le hl1 hz;clear hx hrow hto hn1 hrg htl hks;go_wp2_with fail;refine wp_region_held_drew (S:=Below wr.heap.size wr) (by kernel_rfl) (Below.refl _ _).drew (fun hS1=> ?_);refine takeS (i:=0) (d:=24) (v:=.slice (some ⟨g,0,none⟩) (n+16) cap') rfl rfl rfl (by kernel_rfl) (by kernel_rfl) (by kernel_rfl) (fun _ _ _ h=>h) (fun w' h=>by go_simp) hS1 ?_
   try simp only[Act.put,sA',sZ',sS']
   refine takeS (i:=1) (d:=25) (v:=.int .i64 (k:Int)) rfl rfl rfl (by kernel_rfl) (by kernel_rfl) (by kernel_rfl) (fun _ _ _ h=>h) (fun w' h=>by go_simp) hS1 ?_
   try simp only[Act.put,sA',sZ',sS']
   refine takeS (i:=2) (d:=26) (v:=.pointer (some ⟨g,k*19,none⟩)) rfl rfl rfl (by kernel_rfl) (by kernel_rfl) (by kernel_rfl) (fun _ _ _ h=>h) (fun w' h=>by go_simp) hS1 ?_
   try simp only[Act.put,sA',sZ',sS']
   refine takeM (i:=3) (d:=27) 71 (.tmp 26) g (k*19) (sigC s tv) _ rfl rfl rfl rfl (by rfl) Tryz.underlying71 rfl (by rw[infoN71];rfl) (by kernel_rfl) (by kernel_rfl) (by kernel_rfl) (fun _ _ _ h=>h) (fun w' h=>cells_below HRG.out h hgw) hS1 ?_
   try simp only[Act.put,sA',sZ',sS']
   refine takeS (i:=4) (d:=28) (v:=.slice (some ⟨b1,o1,none⟩) n cap) rfl rfl rfl (by kernel_rfl) (by kernel_rfl) (by kernel_rfl) (fun _ _ _ h=>h) (fun w' h=>by go_simp) hS1 ?_
   try simp only[Act.put,sA',sZ',sS']
   refine takeS (i:=5) (d:=29) (v:=.int .i64 (k:Int)) rfl rfl rfl (by kernel_rfl) (by kernel_rfl) (by kernel_rfl) (fun _ _ _ h=>h) (fun w' h=>by go_simp) hS1 ?_
   try simp only[Act.put,sA',sZ',sS']
   refine takeS (i:=6) (d:=30) (v:=.pointer (some ⟨b1,o1+k*19,none⟩)) rfl rfl rfl (by kernel_rfl) (by kernel_rfl) (by kernel_rfl) (fun _ _ _ h=>h) (fun w' h=>by go_simp) hS1 ?_
   try simp only[Act.put,sA',sZ',sS']
   refine takeM (i:=7) (d:=31) 71 (.tmp 30) b1 (o1+k*19) (sigC s (.slice a1 s.dest.length c1)) _ rfl rfl rfl rfl (by rfl) Tryz.underlying71 rfl (by rw[infoN71];rfl) (by kernel_rfl) (by kernel_rfl) (by kernel_rfl) (fun _ _ _ h=>h) (fun w' h=>cells_below HRB.out h hbw) hS1 ?_
   try simp only[Act.put,sA',sZ',sS']
   refine wpAnyH_ready (rs:=[8]) (by kernel_rfl) (by simp) ?_;refine AllReadyH.cons rfl (fun K hK=> ?_) AllReadyH.nil;go_simp;refine(HKS.out _ hS1).mono ?_;rintro e w5 ⟨rfl,hb5⟩;refine hK.out _ _ (hS1.trans (hb5.mono hS1.size)) (fun hS2=> ?_);clear hK K hb5
   try simp only[Act.put,List.getElem_toArray,List.getElem_cons_succ,List.getElem_cons_zero,sA',sZ',sS']
   refine takeS (i:=9) (d:=33) (v:=.bool false) rfl rfl rfl (by kernel_rfl) (by kernel_rfl) (by kernel_rfl) (fun _ _ _ h=>h) (fun w' h=>by go_simp) hS2 ?_
   try simp only[Act.put,sA',sZ',sS']
   refine wpAnyH_done (by kernel_rfl) ?_ _;have CWB:=hd' hS2;clear hS1 hS2;go_wp2_with fail;go_roundw
   case rel=>exact⟨k+1,by omega,by go_num,HBR.out.trans (CWB.out.mono hz)⟩
   case measure=>simp[intOf];omega
  ·obtain rfl:n=k:=by omega
   go_wp2_with fail
   go_loopw [8] (fun i w2=>∃k:Nat,n≤k∧k≤n+16∧i= .int .i64 (k:Int)∧Below w.heap.size w w2) (fun i _=>n+16-(intOf i).toNat)
   case atStart=>exact⟨n,by omega,by omega,rfl,HBR.out⟩
   case round=>
    obtain⟨k,hk1,hk2,rfl,hb2⟩:=hrel;have HB2:=hd' hb2;have hz2:w.heap.size≤wr.heap.size:=hb2.size
    by_cases hlt2:k<n+16
    ·have hcm:=(hb2.cell (p:=⟨g,k*19+5,none⟩) hg).trans (HL.out.mark hk1 hlt2)
     have q0:(0:Int)≤(k:Int):=by omega
     have q2:(k:Int)<(n:Int)+16:=by omega
     clear hb2;go_wp2_with fail;go_roundw
     case rel=>exact⟨k+1,by omega,by omega,by go_num,HB2.out⟩
     case measure=>simp[intOf];omega
    ·obtain rfl:k=n+16:=by omega
     clear hb2;go_wp2_with fail;go_ret;exact⟨rfl,HB2.out⟩
end Code
end Go.Proofs.YtljhklblbafjkaaGreatDoor
namespace Go.Proofs.YtljhklblbafjkaaGreatDoor
open Go.RowKit
namespace Code
attribute [local go_sem ↓] Go.wp_at_zero Go.wp_at_succ
set_option maxRecDepth 100000 in
set_option maxHeartbeats 12800000 in
theorem keptMessage_any(m:B.Msg)(ao:Option Addr)(cap':Nat)(sa:Option Addr)(n cap:Nat)(w:World)(hl:LentAt w ao n cap' m.sigs)(hs:SigsAt w sa n m.sigs)(hto:∀s∈m.sigs,s.dest.length*16≤140737488351232):
    Calls Tryz.prog 18 #[.agg (msgC m (.slice ao n cap')),.agg (msgC m (.slice sa n cap))] w (TrueOut w):=by
 have HBA:=hd' ((Below.refl w.heap.size w).alloc (lR' _) (.cells (msgC m (.slice ao n cap')) 27));have HBB:=hd' ((Below.refl _ (w.alloc (.cells (msgC m (.slice ao n cap')) 27))).alloc (lR' _) (.cells (msgC m (.slice sa n cap)) 27));have hks:=keptSignals_any ao cap' sa n cap m.sigs _ ((hl.below HBA.out (lR' _)).below HBB.out (lR' _)) ((hs.below HBA.out (lR' _)).below HBB.out (lR' _)) hto;have HKS:=hd' hks;clear hl hs hto hks;unfold msgC at HBA HBB HKS⊢;go_enter Tryz.func18,Tryz.ntmps18;go_wp2_with fail;refine HKS.out.mono ?_;rintro e w3 ⟨rfl,hb3⟩;have HB3:Hid (Below w.heap.size w w3):=hd' ((HBA.out.trans (HBB.out.mono HBA.out.size)).trans (hb3.mono (Nat.le_trans HBA.out.size HBB.out.size)));clear hb3 HBA HBB HKS;go_wp2_with fail;go_ret;exact⟨rfl,HB3.out⟩
end Code
end Go.Proofs.YtljhklblbafjkaaGreatDoor
namespace Go.Proofs.YtljhklblbafjkaaGreatDoor
open Go.RowKit
namespace Code
attribute [local go_sem ↓] Go.wp_at_zero Go.wp_at_succ
set_option maxHeartbeats 1600000 in
theorem sameInstrs_yes(a a':Option Addr)(len cap len' cap':Nat)(ps:List B.Ins)(w:World)(hp:ProgAt w a len ps)(hp':ProgAt w a' len' ps)(hl:len≤9223372036854775807):
    Calls Tryz.prog 20 #[.slice a len cap,.slice a' len' cap'] w (TrueOut w):=by
 obtain rfl:len'=len:=by rw[hp.len,hp'.len]
 have HP:=hd' hp;have HQ:=hd' hp';clear hp hp';go_enter Tryz.func20,Tryz.ntmps20;go_wp2_with fail
 go_loopw [5] (fun i wr=>∃(k:Nat),k≤len'∧i= .int .i64 k∧Below w.heap.size w wr) (fun i _=>len'-(intOf i).toNat)
 case atStart=>exact⟨0,Nat.zero_le _,rfl,Below.refl _ _⟩
 case round=>
  obtain⟨k,hk,rfl,hb⟩:=hrel;have HB:=hd' hb
  by_cases hlt:k<len'
  ·have hx:ps[k]? =some (ps[k]'(by have:=HP.out.len;omega)):=List.getElem?_eq_getElem _
   generalize ps[k]'(by have:=HP.out.len;omega)=x at hx;obtain⟨b,off,rfl,hbl,hat⟩:=HP.out.at_ k x hx;obtain⟨b',off',rfl,hbl',hat'⟩:=HQ.out.at_ k x hx;obtain⟨h0,h1,h2,h3,h4⟩:=hat.below hb hbl;obtain⟨g0,g1,g2,g3,g4⟩:=hat'.below hb hbl'
   have k0:(0:Int)≤(k:Int):=by omega
   have k1:(k:Int)<(len':Int):=by omega
   clear hx hat hat' hb;go_wp2_with fail
   go_quiet (fail)
   go_wp2_with fail;go_roundw
   case rel=>exact⟨k+1,by omega,by go_num,belowN HB.out _⟩
   case measure=>simp[intOf];omega
  ·obtain rfl:k=len':=by omega
   clear hb;go_wp2_with fail;go_ret;exact⟨rfl,HB.out⟩
end Code
end Go.Proofs.YtljhklblbafjkaaGreatDoor
