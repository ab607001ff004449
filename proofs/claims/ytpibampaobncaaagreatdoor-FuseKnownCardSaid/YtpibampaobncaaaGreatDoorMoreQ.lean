/- Instructions behind instructions; what a nil slice is; an instruction in a block of its own. -/
import Derived.Test.YtpibampaobncaaaGreatDoorErrQ
import Derived.Test.YtpibampaobncaaaGreatDoorOpenQ
import Derived.Laws.AppendOwnNone
import Derived.Deep.Cut
import Derived.Deep.DeepCutAuto
import Derived.Deep.CutBlock
import Derived.Deep.RegionHeld3
import Derived.StillTailTactics
import Derived.RegionTactic
import Derived.Deep.DrawnRows
import Derived.Test.YtpibampaobncaaaGreatDoorPlainQ
open Go.Lib renaming hid→hd'
open Nat renaming le_refl→lR'
namespace Go.Proofs.YtpibampaobncaaaGreatDoor
open Go.RowKit
theorem cellsI_one(x:B.Ins):∀u∈cellsI x,u.oneCell'=true:=by
 intro u hu;simp[cellsI]at hu
 rcases hu with rfl | rfl | rfl | rfl | rfl<;>rfl
theorem cellsP_ones(ps:List B.Ins):∀u∈cellsP ps,u.oneCell'=true:=by
 intro u hu;unfold cellsP at hu;rw[List.mem_flatMap]at hu;obtain⟨x,_,hx⟩:=hu;exact cellsI_one x u hx
theorem ProgAt.news{w:World}{ad:Addr}{m:Nat}{ps:List B.Ins}(h:ProgAt w (some ad) m ps):∀j u,(cellsP ps)[j]? =some u→w.cell? (ad.add j)=some u:=by
 intro j u hu
 have hj:j<ps.length*5:=by have:=(List.getElem?_eq_some_iff.1 hu).1;rw[cellsP_length]at this;exact this
 obtain⟨i,r,hr,rfl⟩:∃i r,r<5∧j=i*5+r:=⟨j/5,j%5,Nat.mod_lt _ (by omega),by omega⟩
 have hi:i<ps.length:=by omega
 have hx:ps[i]? =some ps[i]:=List.getElem?_eq_getElem _;rw[cellsP_get ps i _ hx r hr]at hu;obtain⟨b,off,e,_,hat⟩:=h.at_ i _ hx;simp only[Option.some.injEq]at e;subst e;obtain⟨h0,h1,h2,h3,h4⟩:=hat
 have e:(⟨b,off,none⟩:Addr).add (i*5+r)=⟨b,off+(i*5+r),none⟩:=by unfold Addr.add;split<;>simp_all
 rw[e,←Nat.add_assoc]
 have:r=0∨r=1∨r=2∨r=3∨r=4:=by omega
 rcases this with rfl | rfl | rfl | rfl | rfl<;>simp[cellsI]at hu<;>subst hu<;>assumption
theorem ProgAt.none_nil{w:World}{m:Nat}{ps:List B.Ins}(h:ProgAt w none m ps):ps=[]∧m=0:=by
 cases ps with
 | nil=>exact⟨rfl,h.len⟩
 | cons x l=>
  obtain⟨b,off,e,_⟩:=h.at_ 0 x rfl;cases e
theorem app_more{ops:Array Oper}{rest:List Oper}{o:Oper}{a:Act}{Q:Exit→Act→World→Prop}{w:World}(hgd:o.guard=none)(s x:Operand)
    (ho:o.op= .call { callee:=.builtin .append,args:= #[s,x],argTypes:= #[26,26]})
    (base:Nat) {ao:Option Addr} {n cap:Nat} {qs:List B.Ins} (hs:a.eval s= .slice ao n cap) (hown:OwnP w base ao n cap qs)
    {a2:Option Addr} {m c2:Nat} {ps:List B.Ins} (hx:a.eval x= .slice a2 m c2) (hp:ProgAt w a2 m ps) (hnil:a2=none→c2=0) (hbytes:(n+m)*40≤140737488355328) (hbase:base≤w.heap.size)
    (h:∀ao' cap' w',OwnP w' base ao' (n+m) cap' (qs++ps)→Below base w w'→w.heap.size≤w'.heap.size→wpList Tryz.prog ops Q rest (a.put o.dst (.slice ao' (n+m) cap')) w'):
    wpList Tryz.prog ops Q (o::rest) a w:=by
 obtain⟨i,hi,hz0,hz1,hz2⟩:=info_parts info25;have hlt:=hown.own.lt
 cases a2 with
 | none=>
  obtain⟨rfl,rfl⟩:=hp.none_nil;obtain rfl:=hnil rfl;refine wpList_append_own_none hgd s x 26 ho base 25 i 5 Tryz.underlying26 hi _ n (cellsP qs) hs hown.own hx ?_;exact h ao cap w (by rw[List.append_nil];exact hown) (Below.refl _ _) (lR' _)
 | some ad=>
  refine wpList_append_own _ hgd s x 26 ho base 25 i _ 5 40 Tryz.underlying26 hi hz0 hz1 hz2 rfl (by decide) _ n (cellsP qs) hs hown.own ad m c2 (cellsP ps) hx (by rw[cellsP_length,hp.len]) hp.news (cellsP_ones ps) (by simp only[maxLen];omega) hbytes hbase ?_;intro v' w' hown' hg hv;have hb:Below base w w':=(Below.refl base w).grown hg hbase (fun k hk=>(hlt k hk).1);have hsz:w.heap.size≤w'.heap.size:=hb.size
  have hlen:n+m=(qs++ps).length:=by rw[List.length_append,hown.len,hp.len]
  rcases hown'.2 with⟨hv0,hn⟩ | ⟨g,cap',cur,rfl,rest'⟩
  ·subst hv0
   have hm:n+m=0:=hn;have e:=h none 0 w' ⟨hlen,by rw[cellsP_append,hm];rw[hm]at hown';exact hown'⟩ hb hsz;rw[hm]at e;exact e
  ·exact h _ _ _ ⟨hlen,by rw[cellsP_append];exact hown'⟩ hb hsz
theorem insAt_new(x:B.Ins)(w:World):InsAt (w.alloc (.cells #[.int .i64 x.op,.int .i64 x.a,.int .i64 x.b,.int .i64 x.n,.int .u64 x.imm] 25)) w.heap.size 0 x:=by
 have hb:=heap_alloc_new w (.cells #[.int .i64 x.op,.int .i64 x.a,.int .i64 x.b,.int .i64 x.n,.int .u64 x.imm] 25);exact⟨cell_of_row _ _ _ _ _ _ hb,cell_of_row _ _ _ _ _ _ hb,cell_of_row _ _ _ _ _ _ hb,cell_of_row _ _ _ _ _ _ hb,cell_of_row _ _ _ _ _ _ hb⟩
end Go.Proofs.YtpibampaobncaaaGreatDoor
namespace Go.Proofs.YtpibampaobncaaaGreatDoor
open Go.RowKit
namespace Code
attribute [local go_sem ↓] Go.wp_at_zero Go.wp_at_succ
theorem take_snoc'{α:Type}(l:List α)(k:Nat)(x:α)(h:l[k]? =some x):l.take (k+1)=l.take k++[x]:=by
 rw[List.take_add_one,h];rfl
def CopyOut(len:Nat)(ps:List B.Ins)(w:World)(e:Ending)(w':World):Prop:=∃ao cap',e= .returned (.slice ao len cap')∧OwnP w' w.heap.size ao len cap' ps∧Below w.heap.size w w'
set_option maxHeartbeats 1000000 in
theorem copy_any(a:Option Addr)(len cap:Nat)(ps:List B.Ins)(w:World)(hp:ProgAt w a len ps)(hr:len*40≤140737488351232):
    Calls Tryz.prog 35 #[.slice a len cap] w (CopyOut len ps w):=by
 have HP:=hd' hp
 have hlen:len≤3518437208780:=by omega
 clear hp;go_enter Tryz.func35,Tryz.ntmps35;go_wp2_with fail
 go_loopw [3,4] (fun v i wr=>∃(k:Nat) (ao:Option Addr) (cp:Nat),k≤len∧i= .int .i64 k∧v= .slice ao k cp∧OwnP wr w.heap.size ao k cp (ps.take k)∧Below w.heap.size w wr)
  (fun _ i _=>len-(intOf i).toNat)
 case atStart=>exact⟨0,none,0,Nat.zero_le _,rfl,rfl,OwnP.nil _ _,Below.refl _ _⟩
 case round=>
  obtain⟨k,ao,cp,hk,rfl,rfl,hown,hb⟩:=hrel;have HB:=hd' hb;have hsz:=hb.size
  by_cases hlt:k<len
  ·have hx:ps[k]? =some (ps[k]'(by have:=HP.out.len;omega)):=List.getElem?_eq_getElem _
   generalize ps[k]'(by have:=HP.out.len;omega)=x at hx;obtain⟨b,off,rfl,hbl,hat⟩:=HP.out.at_ k x hx;have hat':=hat.below hb hbl;obtain⟨h0,h1,h2,h3,h4⟩:=hat';have HX:=hd' hx;have HO:=hd' hown;clear hx hat hown hb;go_wp2_with (at_builtin;refine app_ins rfl _ _ rfl w.heap.size rfl HO.out rfl (by omega) (by omega) ?_;intro ao' cp' w1 hown1 hb1 hs1);go_roundw
   case rel=>exact⟨k+1,ao',cp',by omega,by go_num,rfl,by rw[take_snoc' _ _ _ HX.out];exact hown1,HB.out.trans (hb1.mono (lR' _))⟩
   case measure=>simp[intOf];omega
  ·obtain rfl:k=len:=by omega
   have HO:Hid (OwnP wr w.heap.size ao k cp ps):=by
    have:=hown;rw[List.take_of_length_le (by have:=HP.out.len;omega)]at this;exact this
   clear hown hb;go_wp2_with fail;go_ret;exact⟨ao,cp,rfl,HO.out,HB.out⟩
end Code
end Go.Proofs.YtpibampaobncaaaGreatDoor
namespace Go.Proofs.YtpibampaobncaaaGreatDoor
open Go.RowKit
namespace Code
end Code
end Go.Proofs.YtpibampaobncaaaGreatDoor
namespace Go.Proofs.YtpibampaobncaaaGreatDoor
open Go.RowKit
namespace Code
attribute [local go_sem ↓] Go.wp_at_zero Go.wp_at_succ
theorem progEr_shape{ps:List B.Ins}{size slots:Int}(hm:¬B.MayRun ps size slots):(progEr ps size slots).isNil=false:=by
 cases h:(progEr ps size slots).isNil with
 | false=>rfl
 | true=>
  exfalso;apply hm;rw[←B.program_ok];unfold progEr erOf at h;have hr:=program_range ps size slots;generalize hq:B.program ps size slots=r at h hr;obtain⟨n,o⟩:=r
  by_cases h0:n=0
  ·subst h0
   cases o with
   | none=>rfl
   | some i=>
    exfalso;unfold B.program at hq;split at hq
    ·simp at hq
    ·split at hq
     ·simp at hq
     ·cases hf:B.firstTouch size slots ps.length 0 ps with
      | some p=>
       obtain⟨e,j⟩:=p;rw[hf]at hq;simp at hq;exact firstTouch_ne _ _ _ _ hf hq.1
      | none=>
       rw[hf]at hq
       cases hfr:B.firstRead ps with
       | none=>rw[hfr]at hq;simp at hq
       | some k=>rw[hfr]at hq;simp at hq
  ·simp only[if_neg h0]at h
   cases o<;>simp[Er.isNil]at h
set_option maxHeartbeats 1600000 in
theorem sameInstrs_yes(a a':Option Addr)(len cap len' cap':Nat)(ps:List B.Ins)(w:World)(hp:ProgAt w a len ps)(hp':ProgAt w a' len' ps)(hl:len≤9223372036854775807):
    Calls Tryz.prog 18 #[.slice a len cap,.slice a' len' cap'] w (BoolOut true w):=by
 obtain rfl:len'=len:=by rw[hp.len,hp'.len]
 have HP:=hd' hp;have HQ:=hd' hp';clear hp hp';go_enter Tryz.func18,Tryz.ntmps18;go_wp2_with fail
 go_loopw [5] (fun i wr=>∃(k:Nat),k≤len'∧i= .int .i64 k∧Below w.heap.size w wr) (fun i _=>len'-(intOf i).toNat)
 case atStart=>exact⟨0,Nat.zero_le _,rfl,Below.refl _ _⟩
 case round=>
  obtain⟨k,hk,rfl,hb⟩:=hrel;have HB:=hd' hb
  by_cases hlt:k<len'
  ·have hx:ps[k]? =some (ps[k]'(by have:=HP.out.len;omega)):=List.getElem?_eq_getElem _
   generalize ps[k]'(by have:=HP.out.len;omega)=x at hx;obtain⟨b,off,rfl,hbl,hat⟩:=HP.out.at_ k x hx;obtain⟨b',off',rfl,hbl',hat'⟩:=HQ.out.at_ k x hx;obtain⟨h0,h1,h2,h3,h4⟩:=hat.below hb hbl;obtain⟨g0,g1,g2,g3,g4⟩:=hat'.below hb hbl'
   have k0:(0:Int)≤(k:Int):=by omega
   have k1:(k:Int)<(len':Int):=by omega
   clear hx hat hat' hb;go_wp2_with fail
   go_quiet (fail)
   go_wp2_with fail;go_roundw
   case rel=>exact⟨k+1,by omega,by go_num,belowN HB.out _⟩
   case measure=>simp[intOf];omega
  ·obtain rfl:k=len':=by omega
   clear hb;go_wp2_with fail;go_ret;exact⟨rfl,HB.out⟩
end Code
end Go.Proofs.YtpibampaobncaaaGreatDoor
namespace Go.Proofs.YtpibampaobncaaaGreatDoor
open Go.RowKit
namespace Code
attribute [local go_sem ↓] Go.wp_at_zero Go.wp_at_succ
theorem from_any(n l h:Int)(w:World):Calls Tryz.prog 95 #[.int .i64 n,.int .i64 l,.int .i64 h] w fun e w'=>e= .returned (.bool (decide (l≤n∧n≤h)))∧w'=w:=by
 by_cases h1:l≤n
 ·by_cases h2:n≤h
  ·go_enter Tryz.func95,Tryz.ntmps95
   go_wp2_with fail;go_ret;exact⟨ret_bool (by simp[h1,h2]),rfl⟩
  ·go_enter Tryz.func95,Tryz.ntmps95
   go_wp2_with fail;go_ret;exact⟨ret_bool (by simp[h2]),rfl⟩
 ·go_enter Tryz.func95,Tryz.ntmps95
  go_wp2_with fail;go_ret;exact⟨ret_bool (by simp;omega),rfl⟩
def lettersS(op:Int):ByteArray:=⟨((B.letters op).map fun n=>UInt8.ofNat n).toArray⟩
theorem ret_str{a b:ByteArray}(h:a=b):Ending.returned (.string a)= .returned (.string b):=by rw[h]
set_option maxRecDepth 100000 in
set_option maxHeartbeats 6400000 in
theorem fieldsS_any(op:Int)(w:World):Calls Tryz.prog 94 #[.int .i64 op] w fun e w'=>e= .returned (.string (lettersS op))∧Below w.heap.size w w':=by
 by_cases h0:op<0
 ·have hl:lettersS op=⟨#[63]⟩:=by unfold lettersS B.letters;rw[if_neg (by omega)];rfl
  have HL:=hd' hl;clear hl;go_enter Tryz.func94,Tryz.ntmps94;go_wp2_with fail;go_ret;exact⟨ret_str HL.out.symm,(Below.refl _ _).alloc (lR' _) _⟩
 by_cases h19:20≤op
 ·have hl:lettersS op=⟨#[63]⟩:=by unfold lettersS B.letters;rw[if_neg (by omega)];rfl
  have HL:=hd' hl;clear hl;go_enter Tryz.func94,Tryz.ntmps94;go_wp2_with fail;go_ret;exact⟨ret_str HL.out.symm,(Below.refl _ _).alloc (lR' _) _⟩
 have hc:op=0∨op=1∨op=2∨op=3∨op=4∨op=5∨op=6∨op=7∨op=8∨op=9∨op=10∨op=11∨op=12∨op=13∨op=14∨op=15∨op=16∨op=17∨op=18∨op=19:=by omega
 clear h0 h19;rcases hc with rfl | rfl | rfl | rfl | rfl | rfl | rfl | rfl | rfl | rfl | rfl | rfl | rfl | rfl | rfl | rfl | rfl | rfl | rfl | rfl
 all_goals go_enter Tryz.func94,Tryz.ntmps94
 all_goals go_wp2_with fail
 all_goals go_ret
 all_goals exact⟨ret_str (by decide+kernel),(Below.refl _ _).alloc (lR' _) _⟩
end Code
end Go.Proofs.YtpibampaobncaaaGreatDoor
