/- Package verify: what an operation's rule is; what an instruction reads, and what it touches. -/
import Derived.Test.YtljhklblbafjkaaGreatDoorCodeR
import Derived.Laws.BitsAllLaws
import Derived.Laws.MakeOwn
open Go.Lib renaming hid→hd'
open Nat renaming le_refl→lR'
namespace Go.Proofs.YtljhklblbafjkaaGreatDoor
open Go.RowKit
namespace Code
attribute [local go_sem ↓] Go.wp_at_zero Go.wp_at_succ
def fault(no i:Int):Value:=.iface 116 (.agg #[.int .i64 no,.int .i64 0,.int .i64 i])
theorem vat_any(no i:Int)(w:World):Calls Tryz.prog 73 #[.int .i64 no,.int .i64 i] w fun e w'=>e= .returned (fault no i)∧w'=w:=by
 unfold fault;go_enter Tryz.func73,Tryz.ntmps73
 go_wp2
 go_ret;exact⟨rfl,rfl⟩
def ors(rs:List Nat):Nat:=rs.foldl (fun s r=>s|||2^r) 0
theorem ors_take{rs:List Nat}{k r:Nat}(h:rs[k]? =some r):ors (rs.take (k+1))=ors (rs.take k)|||2^r:=by
 rw[List.take_add_one,h];simp[ors,List.foldl_append]
theorem ors_lt:∀(rs:List Nat),(∀r∈rs,r≤15)→∀s,s<65536→rs.foldl (fun s r=>s|||2^r) s<65536
 | [],_,s,h=>h
 | r::l,hr,s,h=>by
  refine ors_lt l (fun r' hr'=>hr r' (List.mem_cons_of_mem _ hr')) _ ?_;have h15:=hr r (List.mem_cons_self ..);exact Nat.or_lt_two_pow (n:=16) (by omega) (Nat.pow_lt_pow_right (by omega) (by omega))
theorem pow16{r:Nat}(h:r≤15):(2:Nat)^r<65536:=Nat.pow_lt_pow_right (a:=2) (m:=r) (n:=16) (by omega) (by omega)
theorem shl16(r:Nat)(h:r≤15):IntKind.u16.wrap (2^r:Int)=((2^r:Nat):Int):=by
 have h2:=pow16 h
 have e:((2:Int)^r)=((2^r:Nat):Int):=by push_cast;rfl
 rw[e,IntKind.wrap_u16];generalize(2:Nat)^r=m at*;omega
set_option maxHeartbeats 1600000 in
theorem vof_any(b n cap:Nat)(rs:List Nat)(w:World)(hn:n=rs.length)(hn4:n≤4)(hr:∀r∈rs,r≤15)(hc:∀(j:Nat) r,rs[j]? =some r→w.cell? ⟨b,j,none⟩=some (.int .i64 (r:Int))):
    Calls Tryz.prog 76 #[.slice (some ⟨b,0,none⟩) n cap] w fun e w'=>e= .returned (.int .u16 (ors rs))∧w'=w:=by
 have HR:=hd' hr;have HC:=hd' hc;have HN:=hd' hn;clear hr hc hn;go_enter Tryz.func76,Tryz.ntmps76;go_wp2_with fail
 go_loop [3,8] (fun s i=>∃k:Nat,i= .int .i64 k∧k≤n∧s= .int .u16 (ors (rs.take k))) (fun _ i=>n-(intOf i).toNat)
 case atStart=>exact⟨0,rfl,Nat.zero_le _,rfl⟩
 case round=>
  obtain⟨k,rfl,hk,rfl⟩:=hrel
  by_cases hlt:k<n
  ·have hrk:rs[k]? =some (rs[k]'(by have:=HN.out;omega)):=List.getElem?_eq_getElem _
   generalize rs[k]'(by have:=HN.out;omega)=r at hrk;have h15:r≤15:=HR.out r (List.mem_of_getElem? hrk);have hcell:=HC.out k r hrk;have hs:=ors_lt (rs.take k) (fun r' hr'=>HR.out r' (List.mem_of_mem_take hr')) 0 (by omega);have hsh:=shl16 r h15;have h2:=pow16 h15;have hor:=u16_or_nat (ors (rs.take k)) (2^r) hs h2;have HT:=hd' (ors_take hrk);clear hrk;generalize ors (rs.take k)=s at*;rw[show((2^r:Nat):Int)=(2:Int)^r by push_cast;rfl]at hor;have HO:=hd' hor;clear hor;go_wp2_with fail
   go_round
   case rel=>exact⟨k+1,by go_num,by omega,by rw[HT.out,HO.out]⟩
   case measure=>simp[intOf];omega
  ·obtain rfl:k=n:=by omega
   go_wp2_with fail;go_ret;exact⟨ret_int (by rw[List.take_of_length_le (by have:=HN.out;omega)]),rfl⟩
def rdFn(o:Int):Nat:=
 if o=2 then 111 else if 3≤o∧o≤5 then 112 else if(6≤o∧o≤8)∨(11≤o∧o≤14)∨o=16∨o=17∨o=19 then 113 else 109
def wrB(o:Int):Bool:=decide (1≤o∧o≤10)||decide (o=14)||decide (o=15)
def tcFn(o:Int):Nat:=
 if 9≤o∧o≤13 then 114 else if 15≤o∧o≤17 then 115 else if 18≤o∧o≤19 then 116 else 110
end Code
end Go.Proofs.YtljhklblbafjkaaGreatDoor
namespace Go.Proofs.YtljhklblbafjkaaGreatDoor
open Go.RowKit
namespace Code
attribute [local go_sem ↓] Go.wp_at_zero Go.wp_at_succ
def RuleOut(o:Int)(w:World)(e:Ending)(w':World):Prop:=e= .returned (.agg #[fn0 (rdFn o),.bool (wrB o),fn0 (tcFn o)])∧Below w.heap.size w w'
set_option maxRecDepth 100000 in
set_option maxHeartbeats 6400000 in
theorem ruled_any(o:Int)(w:World)(ho:B.isOp o=true):Calls Tryz.prog 74 #[.int .i64 o] w (RuleOut o w):=by
 rcases ops_cases ho with rfl | rfl | rfl | rfl | rfl | rfl | rfl | rfl | rfl | rfl | rfl | rfl | rfl | rfl | rfl | rfl | rfl | rfl | rfl | rfl
 all_goals
  clear ho;go_enter Tryz.func74,Tryz.ntmps74
  go_wp2
  refine bodyPost_ret (v:=.agg #[fn0 (rdFn _),.bool (wrB _),fn0 (tcFn _)]) (by simp[results,Tryz.results74,go_sem,fn0];decide) rfl ⟨rfl, ?_⟩;exact(Below.refl _ _).alloc (lR' _) _
end Code
end Go.Proofs.YtljhklblbafjkaaGreatDoor
namespace Go.Proofs.YtljhklblbafjkaaGreatDoor
open Go.RowKit
namespace Code
attribute [local go_sem ↓] Go.wp_at_zero Go.wp_at_succ
def En(f:Nat):Prop:=∀(args:Array Value) (w:World),(callFunc f args).run Tryz.prog w= .ok (.enter f args) w
theorem en_rd(o:Int):En (rdFn o):=by
 unfold rdFn
 repeat' split
 ·exact enters_of Tryz.func111 (by kernel_rfl) rfl
 ·exact enters_of Tryz.func112 (by kernel_rfl) rfl
 ·exact enters_of Tryz.func113 (by kernel_rfl) rfl
 ·exact enters_of Tryz.func109 (by kernel_rfl) rfl
theorem en_tc(o:Int):En (tcFn o):=by
 unfold tcFn
 repeat' split
 ·exact enters_of Tryz.func114 (by kernel_rfl) rfl
 ·exact enters_of Tryz.func115 (by kernel_rfl) rfl
 ·exact enters_of Tryz.func116 (by kernel_rfl) rfl
 ·exact enters_of Tryz.func110 (by kernel_rfl) rfl
theorem nothing_any(x:B.Ins)(w:World):Calls Tryz.prog 109 #[valI x] w fun e w'=>e= .returned (.int .u16 0)∧Below w.heap.size w w':=by
 unfold valI;go_enter Tryz.func109,Tryz.ntmps109
 go_wp2
 go_ret;exact⟨rfl,(Below.refl _ _).alloc (lR' _) _⟩
theorem vof_top(vs:List Int)(b n cap:Nat)(t:TypeId)(w:World)(hb:b=w.heap.size)(hn:n=vs.length)(hn4:n≤4)(hv:∀v∈vs,0≤v∧v≤15):
    Calls Tryz.prog 76 #[.slice (some ⟨b,0,none⟩) n cap] (w.alloc (.cells (vs.map (Value.int .i64)).toArray t)) fun e w'=>e= .returned (.int .u16 (ors (vs.map Int.toNat)))∧w'=w.alloc (.cells (vs.map (Value.int .i64)).toArray t):=by
 subst hb;refine vof_any _ n cap (vs.map Int.toNat) _ (by simp[hn]) hn4 ?_ ?_
 ·intro r hr
  obtain⟨v,hm,rfl⟩:=List.mem_map.1 hr;have:=hv v hm;omega
 ·intro j r hj
  rw[cell_of_row _ _ _ _ _ _ (heap_alloc_new w _)];rw[List.getElem?_map]at hj
  cases hvj:vs[j]? with
  | none=>rw[hvj]at hj;cases hj
  | some v=>
   rw[hvj]at hj;simp at hj;subst hj;have:=hv v (List.mem_of_getElem? hvj);simp[hvj];omega
theorem readA_any(x:B.Ins)(w:World)(h0:0≤x.a)(h15:x.a≤15):Calls Tryz.prog 113 #[valI x] w fun e w'=>e= .returned (.int .u16 ((2^x.a.toNat:Nat):Int))∧Below w.heap.size w w':=by
 unfold valI;go_enter Tryz.func113,Tryz.ntmps113;go_wp2_with fail;refine(vof_top [x.a] _ 1 1 3 (w.alloc _) ?h1 rfl (by omega) ?h2).mono ?_
 case h1=>simp
 case h2=>simp;omega
 rintro e w1 ⟨rfl,rfl⟩
 go_wp2
 go_ret;refine⟨ret_int ?_,((Below.refl _ _).alloc (lR' _) _).alloc (by simp) _⟩;simp[ors]
theorem readB_any(x:B.Ins)(w:World)(h0:0≤x.b)(h15:x.b≤15):Calls Tryz.prog 111 #[valI x] w fun e w'=>e= .returned (.int .u16 ((2^x.b.toNat:Nat):Int))∧Below w.heap.size w w':=by
 unfold valI;go_enter Tryz.func111,Tryz.ntmps111;go_wp2_with fail;refine(vof_top [x.b] _ 1 1 3 (w.alloc _) ?h1 rfl (by omega) ?h2).mono ?_
 case h1=>simp
 case h2=>simp;omega
 rintro e w1 ⟨rfl,rfl⟩
 go_wp2
 go_ret;refine⟨ret_int ?_,((Below.refl _ _).alloc (lR' _) _).alloc (by simp) _⟩;simp[ors]
theorem readAB_any(x:B.Ins)(w:World)(h0:0≤x.a)(h15:x.a≤15)(h0':0≤x.b)(h15':x.b≤15):Calls Tryz.prog 112 #[valI x] w fun e w'=>e= .returned (.int .u16 ((2^x.a.toNat|||2^x.b.toNat:Nat):Int))∧Below w.heap.size w w':=by
 unfold valI;go_enter Tryz.func112,Tryz.ntmps112;go_wp2_with fail;refine(vof_top [x.a,x.b] _ 2 2 3 (w.alloc _) ?h1 rfl (by omega) ?h2).mono ?_
 case h1=>simp
 case h2=>simp;omega
 rintro e w1 ⟨rfl,rfl⟩
 go_wp2
 go_ret;refine⟨ret_int ?_,((Below.refl _ _).alloc (lR' _) _).alloc (by simp) _⟩;simp[ors]
theorem reads_any(x:B.Ins)(w:World)(h:x.right=true):Calls Tryz.prog (rdFn x.op) #[valI x] w fun e w'=>e= .returned (.int .u16 (x.mask:Int))∧Below w.heap.size w w':=by
 have hb:=B.right_bounds h
 have hB:(2≤x.op∧x.op≤5)→x.b≤15:=by
  intro ho;unfold B.Ins.right B.hiB at h;simp[ho]at h;omega
 unfold rdFn B.Ins.mask;split
 ·exact readB_any x w (by omega) (hB (by omega))
 ·split
  ·exact readAB_any x w (by omega) (by omega) (by omega) (hB (by omega))
  ·split
   ·exact readA_any x w (by omega) (by omega)
   ·exact nothing_any x w
theorem free_any(x:B.Ins)(size slots left:Int)(w:World):Calls Tryz.prog 110 #[valI x,.int .i64 size,.int .i64 slots,.int .i64 left] w fun e w'=>e= .returned (.int .i64 0)∧Below w.heap.size w w':=by
 unfold valI;go_enter Tryz.func110,Tryz.ntmps110
 go_wp2
 go_ret;exact⟨rfl,(Below.refl _ _).alloc (lR' _) _⟩
theorem tbytes_any(x:B.Ins)(size slots left:Int)(w:World)(h0:0≤x.b)(h1:x.b≤63)(h2:0≤x.n)(h3:x.n≤16384):Calls Tryz.prog 114 #[valI x,.int .i64 size,.int .i64 slots,.int .i64 left] w fun e w'=>e= .returned (.int .i64 (if x.b+x.n>size then 16 else 0))∧Below w.heap.size w w':=by
 unfold valI
 by_cases h:size<x.b+x.n
 ·go_enter Tryz.func114,Tryz.ntmps114
  go_wp2
  go_ret;exact⟨ret_int rfl,(Below.refl _ _).alloc (lR' _) _⟩
 ·go_enter Tryz.func114,Tryz.ntmps114
  go_wp2
  go_ret;exact⟨ret_int rfl,(Below.refl _ _).alloc (lR' _) _⟩
theorem tslot_any(x:B.Ins)(size slots left:Int)(w:World):Calls Tryz.prog 115 #[valI x,.int .i64 size,.int .i64 slots,.int .i64 left] w fun e w'=>e= .returned (.int .i64 (if x.b≥slots then 18 else 0))∧Below w.heap.size w w':=by
 unfold valI
 by_cases h:slots≤x.b
 ·go_enter Tryz.func115,Tryz.ntmps115
  go_wp2
  go_ret;exact⟨ret_int rfl,(Below.refl _ _).alloc (lR' _) _⟩
 ·go_enter Tryz.func115,Tryz.ntmps115
  go_wp2
  go_ret;exact⟨ret_int rfl,(Below.refl _ _).alloc (lR' _) _⟩
theorem tskip_any(x:B.Ins)(size slots left:Int)(w:World):Calls Tryz.prog 116 #[valI x,.int .i64 size,.int .i64 slots,.int .i64 left] w fun e w'=>e= .returned (.int .i64 (if x.n>left then 16 else 0))∧Below w.heap.size w w':=by
 unfold valI
 by_cases h:left<x.n
 ·go_enter Tryz.func116,Tryz.ntmps116
  go_wp2
  go_ret;exact⟨ret_int rfl,(Below.refl _ _).alloc (lR' _) _⟩
 ·go_enter Tryz.func116,Tryz.ntmps116
  go_wp2
  go_ret;exact⟨ret_int rfl,(Below.refl _ _).alloc (lR' _) _⟩
theorem touches_any(x:B.Ins)(size slots left:Int)(w:World)(h:x.right=true):Calls Tryz.prog (tcFn x.op) #[valI x,.int .i64 size,.int .i64 slots,.int .i64 left] w fun e w'=>e= .returned (.int .i64 (x.touch size slots left))∧Below w.heap.size w w':=by
 have hb:=B.right_bounds h;unfold tcFn B.Ins.touch;split
 ·exact tbytes_any x size slots left w (by omega) (by omega) (by omega) (by omega)
 ·split
  ·exact tslot_any x size slots left w
  ·split
   ·exact tskip_any x size slots left w
   ·exact free_any x size slots left w
end Code
end Go.Proofs.YtljhklblbafjkaaGreatDoor
namespace Go.Proofs.YtljhklblbafjkaaGreatDoor
open Go.RowKit
namespace Code
attribute [local go_sem ↓] Go.wp_at_zero Go.wp_at_succ
def touchErr:Option (Int×Nat)→Value
 | none=>.nilIface
 | some (e,i)=>fault e i
theorem firstTouch_step{size slots:Int}{len i:Nat}{x:B.Ins}{r:List B.Ins}:B.firstTouch size slots len i (x::r)=
    if x.right=false then some (20,i)else if x.touch size slots (len-i-1)≠0 then some (x.touch size slots (len-i-1),i)else B.firstTouch size slots len (i+1) r:=rfl
def TouchOut(ps:List B.Ins)(size slots:Int)(w:World)(e:Ending)(w':World):Prop:=e= .returned (touchErr (B.firstTouch size slots ps.length 0 ps))∧Below w.heap.size w w'
def BoxI(x:B.Ins)(X:Nat)(w:World):Prop:=
 w.cell? ⟨X,0,none⟩=some (.int .i64 x.op)∧w.cell? ⟨X,1,none⟩=some (.int .i64 x.a)∧w.cell? ⟨X,2,none⟩=some (.int .i64 x.b)∧w.cell? ⟨X,3,none⟩=some (.int .i64 x.n)∧w.cell? ⟨X,4,none⟩=some (.int .u64 x.imm)
theorem BoxI.below{x:B.Ins}{X N:Nat}{w w':World}(h:BoxI x X w)(hb:Below N w w')(hN:X<N):BoxI x X w':=
 ⟨(hb.cell (p:=⟨X,0,none⟩) hN).trans h.1,(hb.cell (p:=⟨X,1,none⟩) hN).trans h.2.1,(hb.cell (p:=⟨X,2,none⟩) hN).trans h.2.2.1,(hb.cell (p:=⟨X,3,none⟩) hN).trans h.2.2.2.1,(hb.cell (p:=⟨X,4,none⟩) hN).trans h.2.2.2.2⟩
theorem boxI_new(x:B.Ins)(w:World)(t:TypeId):BoxI x w.heap.size (w.alloc (.cells #[.int .i64 x.op,.int .i64 x.a,.int .i64 x.b,.int .i64 x.n,.int .u64 x.imm] t)):=by
 have hb:=heap_alloc_new w (.cells #[.int .i64 x.op,.int .i64 x.a,.int .i64 x.b,.int .i64 x.n,.int .u64 x.imm] t)
 refine⟨?_, ?_, ?_, ?_, ?_⟩<;>(rw[cell_of_row _ _ _ _ _ _ hb];rfl)
theorem BoxI.lt{x:B.Ins}{X:Nat}{w:World}(h:BoxI x X w):X<w.heap.size:=World.block_lt_of_cell? w _ h.1
theorem print_yes(x:B.Ins)(w:World)(hx:x.Wf)(ht:Tabs w)(h:x.right=true):Calls Tryz.prog 72 #[valI x] w fun e w'=>∃s:ByteArray,e= .returned (.tuple #[.string s,.nilIface])∧Below w.heap.size w w':=
 (print_any x w hx ht).mono fun e w' ⟨⟨s,he⟩,hb⟩=>⟨s,by rw[he,if_pos h],hb⟩
theorem print_no(x:B.Ins)(w:World)(hx:x.Wf)(ht:Tabs w)(h:x.right=false):Calls Tryz.prog 72 #[valI x] w fun e w'=>∃s:ByteArray,e= .returned (.tuple #[.string s,.iface 93 (.int .i64 20)])∧Below w.heap.size w w':=
 (print_any x w hx ht).mono fun e w' ⟨⟨s,he⟩,hb⟩=>⟨s,by rw[he,if_neg (by simp[h])];rfl,hb⟩
theorem ruled_out(o:Int)(w:World)(ho:B.isOp o=true):Calls Tryz.prog 74 #[.int .i64 o] w fun e w'=>e= .returned (.agg #[.func (.func (rdFn o)) #[] #[],.bool (wrB o),.func (.func (tcFn o)) #[] #[]])∧Below w.heap.size w w':=ruled_any o w ho
theorem rule_field2(a b c:Value)(w:World):(Instr.field 126 (.agg #[a,b,c]) 2).run Tryz.prog w= .ok c w:=by kernel_rfl
theorem isOp_right{x:B.Ins}(h:x.right=true):B.isOp x.op=true:=by
 have:=(B.right_bounds h).1;unfold B.isOp;simp;omega
set_option maxRecDepth 100000 in
set_option maxHeartbeats 3200000 in
theorem touching_any(a:Option Addr)(len cap:Nat)(ps:List B.Ins)(size slots:Int)(w:World)(hp:ProgAt w a len ps)(hwf:∀y∈ps,y.Wf)(ht:Tabs w)(hl:len≤16384):
    Calls Tryz.prog 46 #[.slice a len cap,.int .i64 size,.int .i64 slots] w (TouchOut ps size slots w):=by
 have HP:=hd' hp;have HWF:=hd' hwf;have HT:=hd' ht;clear hp hwf ht;go_enter Tryz.func46,Tryz.ntmps46;go_wp2_with fail
 go_loopw [14] (fun i wr=>∃k:Nat,i= .int .i64 k∧k≤len∧B.firstTouch size slots ps.length 0 ps=B.firstTouch size slots ps.length k (ps.drop k)∧Below w.heap.size w wr) (fun i _=>len-(intOf i).toNat)
 case atStart=>exact⟨0,rfl,Nat.zero_le _,rfl,Below.refl _ _⟩
 case round=>
  obtain⟨k,rfl,hk,hft,hb⟩:=hrel;have hsz:=hb.size;have HB:=hd' hb
  by_cases hlt:k<len
  ·have hx:ps[k]? =some (ps[k]'(by have:=HP.out.len;omega)):=List.getElem?_eq_getElem _
   have hdr:ps.drop k=ps[k]'(by have:=HP.out.len;omega)::ps.drop (k+1):=List.drop_eq_getElem_cons _;generalize ps[k]'(by have:=HP.out.len;omega)=x at hx hdr;rw[hdr,firstTouch_step]at hft;have HFT:=hd' hft;have HX:=hd' (HWF.out x (List.mem_of_getElem? hx));obtain⟨b,off,rfl,hbl,hat⟩:=HP.out.at_ k x hx;obtain⟨h0,h1,h2,h3,h4⟩:=hat.below hb hbl
   have hbw:b<wr.heap.size:=by omega
   clear hx hdr hft hat hb
   by_cases hright:x.right=true
   ·have hlw:IntKind.i64.wrap ((len:Int)-(k:Int))=(len:Int)-(k:Int):=IntWalk.i64_in _ (by omega)
    have hlw2:IntKind.i64.wrap ((len:Int)-(k:Int)-1)=(len:Int)-(k:Int)-1:=IntWalk.i64_in _ (by omega);have hent:=en_tc x.op;have hfld:=rule_field2;unfold En at hent;have HRI:=hd' hright;clear hright;go_wp2_with fail;refine(print_yes x _ HX.out ((HT.out.below HB.out (lR' _)).alloc _) HRI.out).mono ?_;rintro e w1 ⟨s,rfl,hb1⟩;have hbx:=(boxI_new x wr 74).below hb1 (by simp);have HB1:=hd' hb1;have hs1:=hb1.size
    have hXw:wr.heap.size<w1.heap.size:=by simp at hs1;omega
    clear hb1;go_wp2_with fail
    go_region_held3 (fun w'=>w'.cell? ⟨wr.heap.size,0,none⟩=some (.int .i64 x.op)∧w'.cell? ⟨wr.heap.size,1,none⟩=some (.int .i64 x.a)∧w'.cell? ⟨wr.heap.size,2,none⟩=some (.int .i64 x.b)∧w'.cell? ⟨wr.heap.size,3,none⟩=some (.int .i64 x.n)∧w'.cell? ⟨wr.heap.size,4,none⟩=some (.int .u64 x.imm))
     (first
      | exact hbx
      | exact BoxI.below (N:=w2.heap.size) (w:=w2) hbx2 hb3 (by omega)
      | exact hbx2
      | (refine⟨?_, ?_, ?_, ?_, ?_⟩<;>assumption))
     (first
      | (go_at_call 74;refine(ruled_out x.op _ (isOp_right HRI.out)).mono ?_;rintro e w2 ⟨rfl,hb2⟩;have hs2:w1.heap.size≤w2.heap.size:=hb2.size;have hbx2:BoxI x wr.heap.size w2:=BoxI.below (N:=w1.heap.size) (w:=w1.drew) hbx hb2 hXw)
      | (refine(touches_any x size slots _ _ HRI.out).mono ?_;rintro e w3 ⟨rfl,hb3⟩))
    have hs3:w2.heap.size≤w3.heap.size:=hb3.size;have HB3:=hd' (((HB.out.alloc hsz _).trans (HB1.out.mono (by simp;omega))).trans (((Below.refl w.heap.size w1).drew.trans (hb2.mono (by show w.heap.size≤w1.heap.size;omega))).trans (hb3.mono (by omega))))
    have htl:x.touch size slots ((ps.length:Int)-(k:Int)-1)=x.touch size slots ((len:Int)-(k:Int)-1):=by rw[HP.out.len]
    have HTL:=hd' htl;clear htl hb2 hb3 hbx hbx2;generalize htc:x.touch size slots ((len:Int)-(k:Int)-1)=tc at*;clear htc
    by_cases hz:tc=0
    ·subst hz
     go_wp2_with fail;go_roundw
     case rel=>exact⟨k+1,by go_num,by omega,by rw[HFT.out,if_neg (by simp[HRI.out]),if_neg (by rw[HTL.out];simp)],HB3.out⟩
     case measure=>simp[intOf];omega
    ·have hz1:(tc==0)=false:=by simpa using hz
     have hz2:(tc !=0)=true:=by simpa using hz
     have HZ:=hd' hz;clear hz;go_wp2_with fail;refine(vat_any _ _ _).mono ?_;rintro e w4 ⟨rfl,rfl⟩;go_wp2_with fail;go_ret;refine⟨?_,HB3.out⟩;rw[HFT.out,if_neg (by simp[HRI.out]),if_pos (by rw[HTL.out];exact HZ.out),HTL.out];rfl
   ·have hright':x.right=false:=by simpa using hright
    have HRI:=hd' hright';clear hright hright';go_wp2_with fail;refine(print_no x _ HX.out ((HT.out.below HB.out (lR' _)).alloc _) HRI.out).mono ?_;rintro e w1 ⟨s,rfl,hb1⟩;have HB1:=hd' hb1;clear hb1;go_wp2_with fail;refine(vat_any _ _ _).mono ?_;rintro e w2 ⟨rfl,rfl⟩;go_wp2_with fail;go_ret;refine⟨?_,(HB.out.alloc hsz _).trans (HB1.out.mono (by simp;omega))⟩;rw[HFT.out,if_pos HRI.out];rfl
  ·obtain rfl:k=len:=by omega
   have HFT:=hd' hft;clear hft hb;go_wp2_with fail;go_ret;refine⟨?_,HB.out⟩;rw[HFT.out,List.drop_of_length_le (by have:=HP.out.len;omega)];rfl
end Code
end Go.Proofs.YtljhklblbafjkaaGreatDoor
namespace Go.Proofs.YtljhklblbafjkaaGreatDoor
open Go.RowKit
namespace Code
attribute [local go_sem ↓] Go.wp_at_zero Go.wp_at_succ
structure StRow(w:World)(L n:Nat)(st:Nat→Option Nat):Prop where
 ex:∃C,w.heap[L]? =some (.cells C 132 (0,0))∧C.size=n*2∧∀j,j<n→C[j*2]? =some (.bool (st j).isSome)∧C[j*2+1]? =some (.int .u16 (((st j).getD 0:Nat):Int))
 lt:∀j,(st j).getD 0<65536
theorem StRow.blk{w:World}{L n:Nat}{st:Nat→Option Nat}(h:StRow w L n st):L<w.heap.size:=by
 obtain⟨⟨C,h1,_⟩,_⟩:=h;exact lt_of_block h1
theorem StRow.cells{w:World}{L n:Nat}{st:Nat→Option Nat}(h:StRow w L n st)(j:Nat)(hj:j<n):
    w.cell? ⟨L,j*2,none⟩=some (.bool (st j).isSome)∧w.cell? ⟨L,j*2+1,none⟩=some (.int .u16 (((st j).getD 0:Nat):Int))∧(∀k,w.frozen? ⟨L,k,none⟩=false):=by
 obtain⟨⟨C,h1,h2,h3⟩,_⟩:=h;obtain⟨ha,hb⟩:=h3 j hj;exact⟨by rw[cell_of_row _ _ _ _ _ _ h1];exact ha,by rw[cell_of_row _ _ _ _ _ _ h1];exact hb,fun k=>frozen_blk h1⟩
theorem StRow.below{w w':World}{L n N:Nat}{st:Nat→Option Nat}(h:StRow w L n st)(hb:Below N w w')(hN:L<N):StRow w' L n st:=by
 obtain⟨⟨C,h1,h2,h3⟩,h4⟩:=h;exact⟨⟨C,(hb.block L hN).trans h1,h2,h3⟩,h4⟩
theorem StRow.set{w:World}{L n:Nat}{st st':Nat→Option Nat}(h:StRow w L n st)(j v:Nat)(hj:j<n)(hv:v<65536)(hst:st' j=some v)(hne:∀k,k≠j→st' k=st k):
    StRow ((w.setCell ⟨L,j*2,none⟩ (.bool true)).setCell ⟨L,j*2+1,none⟩ (.int .u16 ((v:Nat):Int))) L n st':=by
 obtain⟨⟨C,h1,h2,h3⟩,h4⟩:=h;refine⟨⟨_,blk_setCell (blk_setCell h1 _) _,by simp[h2],fun k hk=> ?_⟩,fun k=> ?_⟩
 ·by_cases e:k=j
  ·subst e
   rw[hst];constructor
   ·rw[Array.getElem?_setIfInBounds_ne (by omega),Array.getElem?_setIfInBounds_self_of_lt (by omega)];rfl
   ·rw[Array.getElem?_setIfInBounds_self_of_lt (by simp;omega)];rfl
  ·rw[hne k e]
   obtain⟨ha,hb⟩:=h3 k hk;constructor
   ·rw[Array.getElem?_setIfInBounds_ne (by omega),Array.getElem?_setIfInBounds_ne (by omega)];exact ha
   ·rw[Array.getElem?_setIfInBounds_ne (by omega),Array.getElem?_setIfInBounds_ne (by omega)];exact hb
 ·by_cases e:k=j
  ·subst e;rw[hst];exact hv
  ·rw[hne k e];exact h4 k
theorem StRow.again{w:World}{L n:Nat}{st st':Nat→Option Nat}(h:StRow w L n st)(j v u:Nat)(hj:j<n)(hv:v<65536)(hu:st j=some u)(hst:st' j=some v)(hne:∀k,k≠j→st' k=st k):
    StRow (w.setCell ⟨L,j*2+1,none⟩ (.int .u16 ((v:Nat):Int))) L n st':=by
 obtain⟨⟨C,h1,h2,h3⟩,h4⟩:=h;refine⟨⟨_,blk_setCell h1 _,by simp[h2],fun k hk=> ?_⟩,fun k=> ?_⟩
 ·by_cases e:k=j
  ·subst e
   obtain⟨ha,hb⟩:=h3 k hk;rw[hst];rw[hu]at ha;constructor
   ·rw[Array.getElem?_setIfInBounds_ne (by omega)];exact ha
   ·rw[Array.getElem?_setIfInBounds_self_of_lt (by omega)];rfl
  ·rw[hne k e]
   obtain⟨ha,hb⟩:=h3 k hk;constructor
   ·rw[Array.getElem?_setIfInBounds_ne (by omega)];exact ha
   ·rw[Array.getElem?_setIfInBounds_ne (by omega)];exact hb
 ·by_cases e:k=j
  ·subst e;rw[hst];exact hv
  ·rw[hne k e];exact h4 k
theorem come_at{st:Nat→Option Nat}{j v:Nat}(h:st j=none):B.come st j v j=some v:=by unfold B.come;rw[if_pos rfl,h]
theorem come_at'{st:Nat→Option Nat}{j v u:Nat}(h:st j=some u):B.come st j v j=some (u&&&v):=by unfold B.come;rw[if_pos rfl,h]
theorem come_ne{st:Nat→Option Nat}{j v:Nat}(k:Nat)(h:k≠j):B.come st j v k=st k:=by unfold B.come;rw[if_neg h]
def CameOut(L n:Nat)(st:Nat→Option Nat)(w:World)(e:Ending)(w':World):Prop:=e= .returned (.tuple #[])∧StRow w' L n st∧w.grownBy w' (some L)
theorem grownBy_set(w:World)(L o:Nat)(v:Value):w.grownBy (w.setCell ⟨L,o,none⟩ v) (some L):=
 ⟨rfl,rfl,rfl,by simp[World.setCell],fun k _ hk=>Below.heap_setCell _ _ _ _ (fun e=>hk (by rw[e]))⟩
set_option maxRecDepth 100000 in
set_option maxHeartbeats 1600000 in
theorem come_any(L n:Nat)(st:Nat→Option Nat)(j v:Nat)(w:World)(h:StRow w L n st)(hj:j<n)(hv:v<65536):
    Calls Tryz.prog 75 #[.pointer (some ⟨L,j*2,none⟩),.int .u16 v] w (CameOut L n (B.come st j v) w):=by
 have hL:=h.blk;obtain⟨c0,c1,hf⟩:=h.cells j hj;have f0:=hf (j*2);have f1:=hf (j*2+1);clear hf;have HS:=hd' h
 cases hs:st j with
 | none=>
  rw[hs]at c0 c1;have c0':w.cell? ⟨L,j*2,none⟩=some (.bool false):=c0;have c1':w.cell? ⟨L,j*2+1,none⟩=some (.int .u16 0):=c1
  have hand:bits .and .u16 (v:Int) (v:Int)=(v:Int):=by rw[u16_and_nat v v hv hv,Nat.and_self]
  have HN:=hd' hs;clear c0 c1 h hs;go_enter Tryz.func75,Tryz.ntmps75
  go_wp2
  go_end0
  exact⟨rfl,(HS.out.set j v hj hv (come_at HN.out) come_ne).again j v v hj hv (come_at HN.out) (come_at HN.out) (fun _ _=>rfl),((grownBy_set w L _ _).trans (grownBy_set _ L _ _)).trans (grownBy_set _ L _ _)⟩
 | some u=>
  rw[hs]at c0 c1;have c0':w.cell? ⟨L,j*2,none⟩=some (.bool true):=c0;have c1':w.cell? ⟨L,j*2+1,none⟩=some (.int .u16 (u:Nat)):=c1
  have hu:u<65536:=by have:=h.lt j;rw[hs]at this;exact this
  have hand:bits .and .u16 (u:Int) (v:Int)=((u&&&v:Nat):Int):=u16_and_nat u v hu hv;have hle:u&&&v<65536:=Nat.lt_of_le_of_lt Nat.and_le_left hu;have HU:=hd' hs;have HLE:=hd' hle;clear c0 c1 h hs hle;go_enter Tryz.func75,Tryz.ntmps75
  go_wp2
  go_end0
  exact⟨rfl,HS.out.again j _ u hj HLE.out HU.out (come_at' HU.out) come_ne,grownBy_set _ L _ _⟩
theorem row_made(w:World)(len:Nat)(hl:len≤16384):∃C,(Instr.makeSlice 128 (.int .i64 ((len:Int)+1)) (.int .i64 ((len:Int)+1))).run Tryz.prog w= .ok (.slice (some ⟨w.heap.size,0,none⟩) (len+1) (len+1)) (w.alloc (.cells C 132))∧
    StRow (w.alloc (.cells C 132)) w.heap.size (len+1) (fun _=>none):=by
 have hinfo:(Tryz.prog.info? 132).map (fun i=>(i.zero,i.size,i.bytes))=some (some (.agg #[.bool false,.int .u16 0]),2,4):=by kernel_rfl
 obtain⟨i,hi,hz0,hz1,hz2⟩:=info_parts hinfo;have hr:=run_make (P:=Tryz.prog) w 128 132 i _ Tryz.underlying128 hi hz0 .i64 .i64 ((len:Int)+1) ((len:Int)+1) (by omega) (by omega) (by rw[hz2];omega) (by omega);rw[show((len:Int)+1).toNat=len+1 by omega,hz1]at hr;refine⟨_,hr,⟨⟨_,heap_alloc_new w _,size_madeCells _ _,fun j hj=> ?_⟩,fun j=>by simp⟩⟩;have hs:(Value.agg #[.bool false,.int .u16 0]).cells= #[.bool false,.int .u16 0]:=rfl;rw[hs];constructor
 ·rw[madeCells,Array.getElem?_map,Array.getElem?_range,if_pos (by omega)]
  have:j*2%2=0:=by omega
  simp[this]
 ·rw[madeCells,Array.getElem?_map,Array.getElem?_range,if_pos (by omega)]
  have:(j*2+1)%2=1:=by omega
  simp[this]
end Code
end Go.Proofs.YtljhklblbafjkaaGreatDoor
namespace Go.Proofs.YtljhklblbafjkaaGreatDoor
open Go.RowKit
namespace Code
attribute [local go_sem ↓] Go.wp_at_zero Go.wp_at_succ
theorem andNot_zero{m w:Nat}(hm:m<65536)(hw:w<65536):m&&&(65535-w)=0↔m&&&w=m:=by
 have hb:∀i,(65535-w).testBit i=(decide (i<16)&& !w.testBit i):=by
  intro i;have:=Nat.testBit_two_pow_sub_succ (n:=16) (x:=w) (by omega) i;rw[show 2^16-(w+1)=65535-w by omega]at this;exact this
 constructor
 ·intro h
  apply Nat.eq_of_testBit_eq;intro i;have h1:=congrArg (fun n=>n.testBit i) h;simp only[Nat.testBit_and,hb,Nat.zero_testBit]at h1;rw[Nat.testBit_and]
  by_cases hi:i<16
  ·simp[hi]at h1
   cases hm2:m.testBit i with
   | false=>rfl
   | true=>rw[h1 hm2];rfl
  ·have:m.testBit i=false:=Nat.testBit_lt_two_pow (Nat.lt_of_lt_of_le hm (by rw[show 65536=2^16 by rfl];exact Nat.pow_le_pow_right (by omega) (by omega)))
   rw[this];rfl
 ·intro h
  apply Nat.eq_of_testBit_eq;intro i;have h1:=congrArg (fun n=>n.testBit i) h;simp only[Nat.testBit_and]at h1;simp only[Nat.testBit_and,hb,Nat.zero_testBit]
  cases hm2:m.testBit i<;>cases hw2:w.testBit i<;>simp_all
theorem stAt_none{ps:List B.Ins}{k:Nat}(h:B.stAt ps k k=none):B.stAt ps (k+1)=B.stAt ps k:=by
 show(match ps[k]?,B.stAt ps k k with | some x,some w=>B.stNext x k w (B.stAt ps k) | _,_=>B.stAt ps k)=_
 rw[h];cases ps[k]? <;>rfl
theorem stAt_some{ps:List B.Ins}{k w:Nat}{x:B.Ins}(hx:ps[k]? =some x)(h:B.stAt ps k k=some w):B.stAt ps (k+1)=B.stNext x k w (B.stAt ps k):=by
 show(match ps[k]?,B.stAt ps k k with | some x,some w=>B.stNext x k w (B.stAt ps k) | _,_=>B.stAt ps k)=_
 rw[h,hx]
theorem badAt_none{ps:List B.Ins}{k:Nat}(h:B.stAt ps k k=none):B.badAt ps k=false:=by
 unfold B.badAt;rw[h];cases ps[k]? <;>rfl
theorem badAt_some{ps:List B.Ins}{k w:Nat}{x:B.Ins}(hx:ps[k]? =some x)(h:B.stAt ps k k=some w):B.badAt ps k= !decide (x.mask&&&w=x.mask):=by
 unfold B.badAt;rw[h,hx]
theorem firstRead_some{ps:List B.Ins}{k:Nat}(hk:k<ps.length)(h:∀i,i<k→B.badAt ps i=false)(hb:B.badAt ps k=true):B.firstRead ps=some k:=by
 unfold B.firstRead;rw[List.find?_range_eq_some];exact⟨hb,by simpa using hk,fun i hi=>by simp[h i hi]⟩
def readErr:Option Nat→Value
 | none=>.nilIface
 | some i=>fault 21 i
def ReadOut(ps:List B.Ins)(w:World)(e:Ending)(w':World):Prop:=e= .returned (readErr (B.firstRead ps))∧Below w.heap.size w w'
theorem mask_lt{x:B.Ins}(h:x.right=true):x.mask<65536:=by
 have hb:=B.right_bounds h
 have hB:(2≤x.op∧x.op≤5)→x.b≤15:=by
  intro ho;unfold B.Ins.right B.hiB at h;simp[ho]at h;omega
 unfold B.Ins.mask;split
 ·exact pow16 (by have:=hB (by omega);omega)
 ·split
  ·exact Nat.or_lt_two_pow (n:=16) (pow16 (by omega)) (pow16 (by have:=hB (by omega);omega))
  ·split
   ·exact pow16 (by omega)
   ·omega
inductive Cls (x:B.Ins):Prop where
 | halt:x.op=0→Cls x
 | skip:x.op=18→Cls x
 | ne:x.op=19→Cls x
 | wr:x.op≠0→x.op≠18→x.op≠19→wrB x.op=true→Cls x
 | no:x.op≠0→x.op≠18→x.op≠19→wrB x.op=false→Cls x
theorem cls(x:B.Ins):Cls x:=by
 by_cases h0:x.op=0
 ·exact .halt h0
 by_cases h1:x.op=18
 ·exact .skip h1
 by_cases h2:x.op=19
 ·exact .ne h2
 cases h:wrB x.op with
 | true=>exact .wr h0 h1 h2 h
 | false=>exact .no h0 h1 h2 h
structure XR(x:B.Ins)(N:Nat)(X R:Nat)(w:World):Prop where
 x0:w.cell? ⟨X,0,none⟩=some (.int .i64 x.op)
 x1:w.cell? ⟨X,1,none⟩=some (.int .i64 x.a)
 x2:w.cell? ⟨X,2,none⟩=some (.int .i64 x.b)
 x3:w.cell? ⟨X,3,none⟩=some (.int .i64 (N:Int))
 x4:w.cell? ⟨X,4,none⟩=some (.int .u64 x.imm)
 r0:w.cell? ⟨R,0,none⟩=some (.func (.func (rdFn x.op)) #[] #[])
 r1:w.cell? ⟨R,1,none⟩=some (.bool (wrB x.op))
 lX:X<w.heap.size
 lR:R<w.heap.size
theorem XR.below{x:B.Ins}{N X R M:Nat}{w w':World}(h:XR x N X R w)(hb:Below M w w')(hM:w.heap.size≤M):XR x N X R w':=
 have hX:=Nat.lt_of_lt_of_le h.lX hM
 have hR:=Nat.lt_of_lt_of_le h.lR hM
 ⟨(hb.cell (p:=⟨X,0,none⟩) hX).trans h.x0,(hb.cell (p:=⟨X,1,none⟩) hX).trans h.x1,(hb.cell (p:=⟨X,2,none⟩) hX).trans h.x2,(hb.cell (p:=⟨X,3,none⟩) hX).trans h.x3,(hb.cell (p:=⟨X,4,none⟩) hX).trans h.x4,
  (hb.cell (p:=⟨R,0,none⟩) hR).trans h.r0,(hb.cell (p:=⟨R,1,none⟩) hR).trans h.r1,Nat.lt_of_lt_of_le h.lX hb.size,Nat.lt_of_lt_of_le h.lR hb.size⟩
theorem XR.grown{x:B.Ins}{N X R L:Nat}{w w':World}(h:XR x N X R w)(hg:w.grownBy w' (some L))(hX:L≠X)(hR:L≠R):XR x N X R w':=
 have eX:some X≠some L:=fun e=>hX (by simpa using e.symm)
 have eR:some R≠some L:=fun e=>hR (by simpa using e.symm)
 ⟨(hg.cell_far ⟨X,0,none⟩ h.lX eX).trans h.x0,(hg.cell_far ⟨X,1,none⟩ h.lX eX).trans h.x1,(hg.cell_far ⟨X,2,none⟩ h.lX eX).trans h.x2,(hg.cell_far ⟨X,3,none⟩ h.lX eX).trans h.x3,(hg.cell_far ⟨X,4,none⟩ h.lX eX).trans h.x4,
  (hg.cell_far ⟨R,0,none⟩ h.lR eR).trans h.r0,(hg.cell_far ⟨R,1,none⟩ h.lR eR).trans h.r1,Nat.lt_of_lt_of_le h.lX hg.size,Nat.lt_of_lt_of_le h.lR hg.size⟩
theorem reads_N(x:B.Ins)(N:Nat)(hN:x.n=N)(w:World)(h:x.right=true):Calls Tryz.prog (rdFn x.op) #[.agg #[.int .i64 x.op,.int .i64 x.a,.int .i64 x.b,.int .i64 (N:Int),.int .u64 x.imm]] w fun e w'=>e= .returned (.int .u16 (x.mask:Int))∧Below w.heap.size w w':=by
 rw[←hN];exact reads_any x w h
theorem xr_new{x:B.Ins}{N X:Nat}{w:World}(c:Array Value)(hX:X<w.heap.size)(h:∀j,w.cell? ⟨X,j,none⟩=(#[.int .i64 x.op,.int .i64 x.a,.int .i64 x.b,.int .i64 (N:Int),.int .u64 x.imm]:Array Value)[j]?)(t:TypeId)
    (c0:c[0]? =some (.func (.func (rdFn x.op)) #[] #[])) (c1:c[1]? =some (.bool (wrB x.op))):XR x N X w.heap.size (w.alloc (.cells c t)):=by
 have far:∀j,(w.alloc (.cells c t)).cell? ⟨X,j,none⟩=w.cell? ⟨X,j,none⟩:=fun j=>World.cell?_alloc_lt w _ ⟨X,j,none⟩ hX
 have hb:=heap_alloc_new w (.cells c t);exact⟨(far 0).trans (h 0),(far 1).trans (h 1),(far 2).trans (h 2),(far 3).trans (h 3),(far 4).trans (h 4),(cell_of_row _ _ _ _ _ _ hb).trans c0,(cell_of_row _ _ _ _ _ _ hb).trans c1,by simp;omega,by simp⟩
theorem next_halt{x:B.Ins}{k wv:Nat}{st:Nat→Option Nat}(h:x.op=0):B.stNext x k wv st=st:=by
 unfold B.stNext B.Ins.next B.Ins.skips;simp[h]
theorem next_skip{x:B.Ins}{k wv:Nat}{st:Nat→Option Nat}(h:x.op=18):B.stNext x k wv st=B.come st (k+1+x.n.toNat) wv:=by
 unfold B.stNext B.Ins.next B.Ins.skips B.Ins.after B.Ins.isW;simp[h]
theorem next_ne{x:B.Ins}{k wv:Nat}{st:Nat→Option Nat}(h:x.op=19):B.stNext x k wv st=B.come (B.come st (k+1) wv) (k+1+x.n.toNat) wv:=by
 unfold B.stNext B.Ins.next B.Ins.skips B.Ins.after B.Ins.isW;simp[h]
theorem next_on{x:B.Ins}{k wv:Nat}{st:Nat→Option Nat}(h0:x.op≠0)(h1:x.op≠18)(h2:x.op≠19):B.stNext x k wv st=B.come st (k+1) (if wrB x.op then wv|||2^x.a.toNat else wv):=by
 have e:x.isW=wrB x.op:=rfl;unfold B.stNext B.Ins.next B.Ins.skips B.Ins.after;simp[h0,h1,h2,e]
theorem of_one(v:Int)(b:Nat)(t:TypeId)(w:World)(hb:b=w.heap.size)(h0:0≤v)(h15:v≤15):
    Calls Tryz.prog 76 #[.slice (some ⟨b,0,none⟩) 1 1] (w.alloc (.cells #[.int .i64 v] t)) fun e w'=>e= .returned (.int .u16 ((2^v.toNat:Nat):Int))∧w'=w.alloc (.cells #[.int .i64 v] t):=by
 have:=vof_top [v] b 1 1 t w hb rfl (by omega) (by simp;omega);refine this.mono ?_;rintro e w' ⟨rfl,rfl⟩;exact⟨ret_int (by simp[ors]),rfl⟩
theorem goal_le{ps:List B.Ins}{size slots:Int}{k N:Nat}{x:B.Ins}(hok:B.OkTouch ps size slots)(hx:ps[k]? =some x)(ho:x.op=18∨x.op=19)(hN:x.n=N):k+1+N≤ps.length:=by
 have h:=hok.touch k x hx;have hk:=(List.getElem?_eq_some_iff.1 hx).1;unfold B.Ins.touch at h
 rcases ho with ho | ho<;>simp[ho,hN]at h<;>omega
structure RdEnd(w w':World)(len k:Nat)(ps:List B.Ins)(st:Nat→Option Nat):Prop where
 row:StRow w' w.heap.size (len+1) st
 below:Below w.heap.size w w'
set_option maxRecDepth 100000 in
set_option maxHeartbeats 6400000 in
theorem reading_any(a:Option Addr)(len cap:Nat)(ps:List B.Ins)(size slots:Int)(w:World)(hp:ProgAt w a len ps)(hok:B.OkTouch ps size slots)(hl:len≤16384):
    Calls Tryz.prog 47 #[.slice a len cap] w (ReadOut ps w):=by
 have HP:=hd' hp;have HOK:=hd' hok;obtain⟨C,hmk,hrow⟩:=row_made w len hl;have HROW:=hd' hrow;clear hp hok hrow;have hlw:IntKind.i64.wrap ((len:Int)+1)=(len:Int)+1:=IntWalk.i64_in _ (by omega);go_enter Tryz.func47,Tryz.ntmps47;go_wp2_with fail;refine(come_any w.heap.size (len+1) (fun _=>none) 0 0 _ HROW.out (by omega) (by omega)).mono ?_;rintro e w1 ⟨rfl,hst1,hg1⟩;have HST1:=hd' hst1;have HB1:=hd' (((Below.refl w.heap.size w).alloc (lR' _) _).grown hg1 (by simp) (fun k hk=>by simp at hk;omega));clear hst1 hg1 hmk;go_wp2_with fail
 go_loopw [17] (fun i wr=>∃k:Nat,i= .int .i64 k∧k≤len∧(∀i,i<k→B.badAt ps i=false)∧StRow wr w.heap.size (len+1) (B.stAt ps k)∧Below w.heap.size w wr) (fun i _=>len-(intOf i).toNat)
 case atStart=>
  refine⟨0,rfl,Nat.zero_le _,fun i hi=>by omega, ?_,HB1.out⟩
  have e:B.come (fun _=>none) 0 0=B.stAt ps 0:=by
   funext k
   show B.come (fun _=>none) 0 0 k=if k=0 then some 0 else none
   unfold B.come;rfl
  rw[←e];exact HST1.out
 case round=>
  obtain⟨k,rfl,hk,hbad,hst,hb⟩:=hrel;have hsz:=hb.size;have HB:=hd' hb;have HST:=hd' hst;have HBAD:=hd' hbad;have hLw:=hst.blk
  by_cases hlt:k<len
  ·have hx:ps[k]? =some (ps[k]'(by have:=HP.out.len;omega)):=List.getElem?_eq_getElem _
   generalize ps[k]'(by have:=HP.out.len;omega)=x at hx;have HX:=hd' hx;obtain⟨b,off,rfl,hbl,hat⟩:=HP.out.at_ k x hx;obtain⟨h0,h1,h2,h3,h4⟩:=hat.below hb hbl
   have hbw:b<wr.heap.size:=by omega
   obtain⟨c0,c1,hf⟩:=hst.cells k (by omega)
   cases hs:B.stAt ps k k with
   | none=>
    rw[hs]at c0;have c0':wr.cell? ⟨w.heap.size,k*2,none⟩=some (.bool false):=c0;have HS:=hd' hs;clear c0 c1 hf hx hat hb hst hbad hs;go_wp2_with fail;go_roundw
    case rel=>
     refine⟨k+1,by go_num,by omega,fun i hi=> ?_,by rw[stAt_none HS.out];exact HST.out.below ((Below.refl _ _).alloc (lR' _) _) hLw,HB.out.alloc hsz _⟩
     by_cases e:i=k
     ·subst e;exact badAt_none HS.out
     ·exact HBAD.out i (by omega)
    case measure=>simp[intOf];omega
   | some wv=>
    rw[hs]at c0 c1;have c0':wr.cell? ⟨w.heap.size,k*2,none⟩=some (.bool true):=c0;have c1':wr.cell? ⟨w.heap.size,k*2+1,none⟩=some (.int .u16 (wv:Nat)):=c1
    have hwv:wv<65536:=by have:=hst.lt k;rw[hs]at this;exact this
    have hr:=HOK.out.right k x hx;have hrb:=B.right_bounds hr;obtain⟨N,hN⟩:∃N:Nat,x.n=N:=⟨x.n.toNat,by omega⟩
    have hN14:N≤16384:=by omega
    rw[hN]at h3;have hent:=en_rd x.op;unfold En at hent;have hml:=mask_lt hr;have hand:=u16_andNot_nat x.mask wv hml hwv;have HS:=hd' hs;have HR:=hd' hr;have HN:=hd' hN;have HRB:=hd' hrb;have HAZ:=hd' (andNot_zero hml hwv);generalize hd:x.mask&&&(65535-wv)=d at*;clear hd;clear c0 c1 hf hx hat hb hst hbad hs hr hrb hN;go_wp2_with fail;refine(ruled_out x.op _ (isOp_right HR.out)).mono ?_;rintro e w2 ⟨rfl,hb2⟩;have hs2:=hb2.size
    have hXw:wr.heap.size<w2.heap.size:=by simp at hs2;omega
    have hcx:=res_cell hb2 (by simp);have d1:=((hb2.cell (p:=⟨w.heap.size,k*2+1,none⟩) (by simp;omega)).trans (World.cell?_alloc_lt wr _ ⟨w.heap.size,k*2+1,none⟩ hLw)).trans c1'
    have hLw2:w.heap.size<w2.heap.size:=by omega
    have HB2:=hd' (((Below.refl wr.heap.size wr).alloc (lR' _) _).trans (hb2.mono (by simp)));clear hb2 c0' c1' h0 h1 h2 h3 h4;go_wp2_with fail;refine(reads_N x N HN.out _ HR.out).mono ?_;rintro e w3 ⟨rfl,hb3⟩;have hs3:=hb3.size;have hXR:=(xr_new (x:=x) (N:=N) #[.func (.func (rdFn x.op)) #[] #[],.bool (wrB x.op),.func (.func (tcFn x.op)) #[] #[]] hXw hcx 126 rfl rfl).below hb3 (lR' _)
    have hLw3:w.heap.size<w3.heap.size:=by simp at hs3;omega
    have HB3:=hd' ((HB.out.trans (HB2.out.mono hsz)).trans (((Below.refl w.heap.size w2).alloc (by omega) _).trans (hb3.mono (by simp;omega))));have HST3:=hd' ((HST.out.below HB2.out hLw).below (((Below.refl w2.heap.size w2).alloc (lR' _) _).trans (hb3.mono (by simp))) hLw2)
    have hneX:w.heap.size≠wr.heap.size:=by omega
    have hneR:w.heap.size≠w2.heap.size:=by omega
    have hk1:IntKind.i64.wrap ((k:Int)+1)=(k:Int)+1:=IntWalk.i64_in _ (by omega);have hk2:IntKind.i64.wrap ((k:Int)+1+(N:Int))=(k:Int)+1+(N:Int):=IntWalk.i64_in _ (by omega);clear hb3 hcx d1
    by_cases hd0:d=0
    ·subst hd0
     have hbad:B.badAt ps k=false:=by rw[badAt_some HX.out HS.out,HAZ.out.1 rfl];simp
     have HBD:Hid (∀i,i<k+1→B.badAt ps i=false):=by
      show∀i,i<k+1→_
      intro i hi
      by_cases e:i=k
      ·subst e;exact hbad
      ·exact HBAD.out i (by omega)
     have HSN:=hd' (stAt_some HX.out HS.out);clear hbad;have HXR:=hd' hXR;obtain⟨y0,y1,y2,y3,y4,r0,r1,lX,lR⟩:=hXR;clear y2 y4 r0;rcases cls x with ho | ho | ho | ⟨h0,h1,h2,hw⟩ | ⟨h0,h1,h2,hw⟩
     ·rw[ho]at y0 r1
      have r1':w3.cell? ⟨w2.heap.size,1,none⟩=some (.bool false):=r1;have HO:=hd' ho;clear ho r1;go_wp2_with fail;go_roundw
      case rel=>exact⟨k+1,by go_num,by omega,HBD.out,by rw[HSN.out,next_halt HO.out];exact HST3.out,HB3.out⟩
      case measure=>simp[intOf];omega
     ·rw[ho]at y0 r1
      have r1':w3.cell? ⟨w2.heap.size,1,none⟩=some (.bool false):=r1
      have hgl:k+1+N≤len:=by have:=goal_le HOK.out HX.out (.inl ho) HN.out;have:=HP.out.len;omega
      have HO:=hd' ho;clear ho r1;go_wp2_with fail;refine(come_any w.heap.size (len+1) _ (k+1+N) wv _ HST3.out (by omega) hwv).mono ?_;rintro e w4 ⟨rfl,hst4,hg4⟩;have HST4:=hd' hst4;have HB4:=hd' (HB3.out.grown hg4 (by omega) (fun k hk=>by simp at hk;omega));clear hst4 hg4;go_wp2_with fail;go_roundw
      case rel=>exact⟨k+1,by go_num,by omega,HBD.out,by(rw[HSN.out,next_skip HO.out,HN.out];exact HST4.out),HB4.out⟩
      case measure=>simp[intOf];omega
     ·rw[ho]at y0 r1
      have r1':w3.cell? ⟨w2.heap.size,1,none⟩=some (.bool false):=r1
      have hgl:k+1+N≤len:=by have:=goal_le HOK.out HX.out (.inr ho) HN.out;have:=HP.out.len;omega
      have HO:=hd' ho;clear ho r1;go_wp2_with fail;refine(come_any w.heap.size (len+1) _ (k+1) wv _ HST3.out (by omega) hwv).mono ?_;rintro e w4 ⟨rfl,hst4,hg4⟩;have hxr4:=HXR.out.grown hg4 hneX hneR;obtain⟨z0,z1,z2,z3,z4,s0,s1,mX,mR⟩:=hxr4;rw[HO.out]at z0;have hLw4:=hst4.blk;have hs4:=hg4.size;have HST4:=hd' hst4;have HB4:=hd' (HB3.out.grown hg4 (by omega) (fun k hk=>by simp at hk;omega));clear hst4 hg4 z1 z2 z4 s0 s1;go_wp2_with fail;refine(come_any w.heap.size (len+1) _ (k+1+N) wv _ HST4.out (by omega) hwv).mono ?_;rintro e w5 ⟨rfl,hst5,hg5⟩;have HST5:=hd' hst5;have HB5:=hd' (HB4.out.grown hg5 (by omega) (fun k hk=>by simp at hk;omega));clear hst5 hg5;go_wp2_with fail;go_roundw
      case rel=>exact⟨k+1,by go_num,by omega,HBD.out,by(rw[HSN.out,next_ne HO.out,HN.out];exact HST5.out),HB5.out⟩
      case measure=>simp[intOf];omega
     ·rw[hw]at r1
      have q0:(x.op !=0)=true:=by simpa using h0
      have q0':(x.op==0)=false:=by simpa using h0
      have q1:(x.op !=18)=true:=by simpa using h1
      have q1':(x.op==18)=false:=by simpa using h1
      have q2':(x.op==19)=false:=by simpa using h2
      have ha0:0≤x.a:=by have:=HRB.out;omega
      have ha15:x.a≤15:=by have:=HRB.out;omega
      have hp:=pow16 (r:=x.a.toNat) (by omega);have HNX:=hd' (next_on (k:=k) (wv:=wv) (st:=B.stAt ps k) h0 h1 h2);have HW:=hd' hw;clear h0 h1 h2 hw
      have hcall:=fun(b:Nat) (hb:b=w3.heap.size)=>of_one x.a b 3 w3 hb ha0 ha15
      have HC:=hd' hcall;clear hcall;generalize hpe:2^x.a.toNat=p at*;have hor:=u16_or_nat wv p hwv hp;have hlt':wv|||p<65536:=Nat.or_lt_two_pow (n:=16) hwv hp;clear hpe;go_wp2_with fail;refine(HC.out _ rfl).mono ?_;rintro e w4 ⟨rfl,rfl⟩;have HST4:=hd' (HST3.out.below ((Below.refl _ _).alloc (lR' _) (.cells #[.int .i64 x.a] 3)) hLw3);have HB4:=hd' (HB3.out.alloc (by omega) (.cells #[.int .i64 x.a] 3));go_wp2_with fail;refine(come_any w.heap.size (len+1) _ (k+1) (wv|||p) _ HST4.out (by omega) hlt').mono ?_;rintro e w5 ⟨rfl,hst5,hg5⟩;have hxr5:=(HXR.out.below ((Below.refl _ _).alloc (lR' _) (.cells #[.int .i64 x.a] 3)) (lR' _)).grown hg5 hneX hneR;obtain⟨z0,z1,z2,z3,z4,s0,s1,mX,mR⟩:=hxr5;have HST5:=hd' hst5;have HB5:=hd' (HB4.out.grown hg5 (by simp;omega) (fun k hk=>by simp at hk;omega));clear hst5 hg5 z1 z2 z3 z4 s0 s1;go_wp2_with fail;go_roundw
      case rel=>exact⟨k+1,by go_num,by omega,HBD.out,by(rw[HSN.out,HNX.out,HW.out,if_pos rfl];exact HST5.out),HB5.out⟩
      case measure=>simp[intOf];omega
     ·rw[hw]at r1
      have q0:(x.op !=0)=true:=by simpa using h0
      have q0':(x.op==0)=false:=by simpa using h0
      have q1:(x.op !=18)=true:=by simpa using h1
      have q1':(x.op==18)=false:=by simpa using h1
      have q2':(x.op==19)=false:=by simpa using h2
      have HNX:=hd' (next_on (k:=k) (wv:=wv) (st:=B.stAt ps k) h0 h1 h2);have HW:=hd' hw;clear h0 h1 h2 hw;go_wp2_with fail;refine(come_any w.heap.size (len+1) _ (k+1) wv _ HST3.out (by omega) hwv).mono ?_;rintro e w5 ⟨rfl,hst5,hg5⟩;have hxr5:=HXR.out.grown hg5 hneX hneR;obtain⟨z0,z1,z2,z3,z4,s0,s1,mX,mR⟩:=hxr5;have HST5:=hd' hst5;have HB5:=hd' (HB3.out.grown hg5 (by omega) (fun k hk=>by simp at hk;omega));clear hst5 hg5 z1 z2 z3 z4 s0 s1;go_wp2_with fail;go_roundw
      case rel=>exact⟨k+1,by go_num,by omega,HBD.out,by(rw[HSN.out,HNX.out,HW.out,if_neg (by simp)];exact HST5.out),HB5.out⟩
      case measure=>simp[intOf];omega
    ·have hz1:((d:Int)==0)=false:=by simpa using hd0
     have hz2:((d:Int) !=0)=true:=by simpa using hd0
     have HBK:Hid (B.badAt ps k=true):=by
      show B.badAt ps k=true
      rw[badAt_some HX.out HS.out]
      have:¬x.mask&&&wv=x.mask:=fun h=>hd0 (HAZ.out.2 h)
      simp[this]
     clear hd0;go_wp2_with fail;refine(vat_any _ _ _).mono ?_;rintro e w4 ⟨rfl,rfl⟩;go_wp2_with fail;go_ret;refine⟨?_,HB3.out⟩;rw[firstRead_some (by have:=HP.out.len;omega) HBAD.out HBK.out];rfl
  ·obtain rfl:k=len:=by omega
   clear hb hst hbad;go_wp2_with fail;go_ret;refine⟨?_,HB.out⟩;rw[B.firstRead_none.2 (fun i hi=>HBAD.out i (by have:=HP.out.len;omega))];rfl
end Code
end Go.Proofs.YtljhklblbafjkaaGreatDoor
namespace Go.Proofs.YtljhklblbafjkaaGreatDoor
open Go.RowKit
namespace Code
attribute [local go_sem ↓] Go.wp_at_zero Go.wp_at_succ
def progErr(r:Int×Option Nat):Value:=
 if r.1=0 then .nilIface else match r.2 with
  | none=>errno r.1
  | some i=>fault r.1 i
def ProgOut(ps:List B.Ins)(size slots:Int)(w:World)(e:Ending)(w':World):Prop:=e= .returned (progErr (B.program ps size slots))∧Below w.heap.size w w'
theorem firstTouch_ne{size slots:Int}{len:Nat}:∀(l:List B.Ins) (i:Nat) (e:Int) (j:Nat),B.firstTouch size slots len i l=some (e,j)→e≠0
 | [],i,e,j,h=>by simp[B.firstTouch]at h
 | x::r,i,e,j,h=>by
  rw[firstTouch_step]at h;split at h
  ·simp at h;omega
  ·split at h
   ·rename_i hne
    simp at h;rw[←h.1];exact hne
   ·exact firstTouch_ne r _ _ _ h
theorem program_arg{ps:List B.Ins}{size slots:Int}(h:size<0∨8<size∨slots<0∨64<slots):progErr (B.program ps size slots)=errno 1:=by
 unfold B.program;rw[if_pos h];rfl
theorem program_many{ps:List B.Ins}{size slots:Int}(h:¬(size<0∨8<size∨slots<0∨64<slots))(hl:16384<ps.length):progErr (B.program ps size slots)=errno 5:=by
 unfold B.program;rw[if_neg h,if_pos hl];rfl
theorem program_touch{ps:List B.Ins}{size slots:Int}{e:Int}{i:Nat}(h:¬(size<0∨8<size∨slots<0∨64<slots))(hl:¬16384<ps.length)(ht:B.firstTouch size slots ps.length 0 ps=some (e,i)):progErr (B.program ps size slots)=fault e i:=by
 unfold B.program;rw[if_neg h,if_neg hl,ht];have:=firstTouch_ne _ _ _ _ ht;unfold progErr;rw[if_neg this]
theorem program_read{ps:List B.Ins}{size slots:Int}(h:¬(size<0∨8<size∨slots<0∨64<slots))(hl:¬16384<ps.length)(ht:B.firstTouch size slots ps.length 0 ps=none):
    progErr (B.program ps size slots)=readErr (B.firstRead ps):=by
 unfold B.program;rw[if_neg h,if_neg hl,ht]
 cases B.firstRead ps<;>rfl
set_option maxRecDepth 100000 in
set_option maxHeartbeats 3200000 in
theorem program_any(a:Option Addr)(len cap:Nat)(ps:List B.Ins)(size slots:Int)(w:World)(hp:ProgAt w a len ps)(hwf:∀y∈ps,y.Wf)(ht:Tabs w)(hr:len≤9223372036854775807):
    Calls Tryz.prog 19 #[.slice a len cap,.int .i64 size,.int .i64 slots] w (ProgOut ps size slots w):=by
 have HP:=hd' hp;have HWF:=hd' hwf;have HT:=hd' ht;clear hp hwf ht
 by_cases q1:size<0
 ·have d1:decide (size<0)=true:=by simpa using q1
  go_enter Tryz.func19,Tryz.ntmps19;go_wp2_with fail;go_ret;exact⟨by rw[program_arg (.inl q1)];rfl,Below.refl _ _⟩
 ·have d1:decide (size<0)=false:=by simpa using q1
  by_cases q2:8<size
  ·have d2:decide (8<size)=true:=by simpa using q2
   go_enter Tryz.func19,Tryz.ntmps19;go_wp2_with fail;go_ret;exact⟨by rw[program_arg (.inr (.inl q2))];rfl,Below.refl _ _⟩
  ·have d2:decide (8<size)=false:=by simpa using q2
   by_cases q3:slots<0
   ·have d3:decide (slots<0)=true:=by simpa using q3
    go_enter Tryz.func19,Tryz.ntmps19;go_wp2_with fail;go_ret;exact⟨by rw[program_arg (.inr (.inr (.inl q3)))];rfl,Below.refl _ _⟩
   ·have d3:decide (slots<0)=false:=by simpa using q3
    by_cases q4:64<slots
    ·have d4:decide (64<slots)=true:=by simpa using q4
     go_enter Tryz.func19,Tryz.ntmps19;go_wp2_with fail;go_ret;exact⟨by rw[program_arg (.inr (.inr (.inr q4)))];rfl,Below.refl _ _⟩
    ·have d4:decide (64<slots)=false:=by simpa using q4
     have HA:Hid (¬(size<0∨8<size∨slots<0∨64<slots)):=by show¬_;omega
     by_cases q5:16384<len
     ·have d5:decide ((16384:Int)<(len:Int))=true:=by simp;omega
      go_enter Tryz.func19,Tryz.ntmps19;go_wp2_with fail;go_ret;exact⟨by rw[program_many HA.out (by have:=HP.out.len;omega)];rfl,Below.refl _ _⟩
     ·have d5:decide ((16384:Int)<(len:Int))=false:=by simp;omega
      have HL:Hid (¬16384<ps.length):=by show¬_;have:=HP.out.len;omega
      clear q1 q2 q3 q4;go_enter Tryz.func19,Tryz.ntmps19;go_wp2_with fail;refine(touching_any a len cap ps size slots _ HP.out HWF.out HT.out (by omega)).mono ?_;rintro e w1 ⟨rfl,hb1⟩;have HB1:=hd' hb1;have hs1:=hb1.size;clear hb1
      cases hft:B.firstTouch size slots ps.length 0 ps with
      | some p=>
       obtain⟨e,i⟩:=p;have HF:=hd' hft;clear hft;have ee:touchErr (some (e,i))= .iface 116 (.agg #[.int .i64 e,.int .i64 0,.int .i64 i]):=rfl;rw[ee];clear ee;go_wp2_with fail;go_ret;exact⟨by rw[program_touch HA.out HL.out HF.out];rfl,HB1.out⟩
      | none=>
       have HF:=hd' hft;have hok:=hd' ((B.okTouch_iff ps size slots).1 hft);clear hft;have ee:touchErr none= .nilIface:=rfl;rw[ee];clear ee;go_wp2_with fail;refine(reading_any a len cap ps size slots _ (HP.out.below HB1.out (lR' _)) hok.out (by omega)).mono ?_;rintro e w2 ⟨rfl,hb2⟩;have HB2:=hd' (HB1.out.trans (hb2.mono hs1));clear hb2;have HPR:=hd' (program_read HA.out HL.out HF.out);generalize readErr (B.firstRead ps)=v at*;go_wp2_with fail;go_ret;exact⟨by rw[HPR.out];rfl,HB2.out⟩
end Code
end Go.Proofs.YtljhklblbafjkaaGreatDoor
