/- Go's library: strconv.FormatUint at base 16 answers some text; it leaves what lay there. -/
import Derived.Test.YtljhklblbafjkaaGreatDoorBaseQ
import Derived.Laws.IdiomStrings
import Derived.Laws.BitsAllLaws
import Derived.Laws.Slices
import Derived.Test.YtljhklblbafjkaaGreatDoorCodeS
import Derived.Lib.ItoaMem
import Derived.Lib.ItoaLen
open Go.Lib renaming hid→hd'
open Nat renaming le_refl→lR'
namespace Go.Proofs.YtljhklblbafjkaaGreatDoor
open Go.RowKit
namespace Code
theorem tz64_16(w:World)(h:w.cell? ⟨9,15,none⟩=some (.int .u8 4)):
    Calls Tryz.prog 225 #[.int .u64 16] w fun e w'=>e= .returned (.int .i64 4)∧w'=w:=by
 have e1:bits BinOp.and IntKind.u64 16 (IntKind.u64.wrap (-16))=16:=by kernel_rfl
 have e2:IntKind.u64.wrap 4573923408821661840=4573923408821661840:=by kernel_rfl
 go_enter Tryz.func225,Tryz.ntmps225
 go_wp2
 go_ret;exact⟨rfl,rfl⟩
theorem tz_16(w:World)(h:w.cell? ⟨9,15,none⟩=some (.int .u8 4)):
    Calls Tryz.prog 223 #[.int .u64 16] w fun e w'=>e= .returned (.int .i64 4)∧w'=w:=by
 have H:=hd' h;clear h;go_enter Tryz.func223,Tryz.ntmps223;go_wp2_with (go_at_call 225;refine(tz64_16 _ H.out).mono ?_;rintro e w' ⟨rfl,rfl⟩);go_ret;exact⟨rfl,rfl⟩
theorem isPow16(w:World):Calls Tryz.prog 222 #[.int .i64 16] w fun e w'=>e= .returned (.bool true)∧w'=w:=by
 go_enter Tryz.func222,Tryz.ntmps222
 go_wp2
 go_ret;exact⟨rfl,rfl⟩
structure Row65(w:World)(B:Nat):Prop where
 ex:∃C,w.heap[B]? =some (.cells C 304 (0,0))∧C.size=65∧∀j,j<65→∃b:UInt8,C[j]? =some (.int .u8 (b.toNat:Int))
theorem Row65.set{w:World}{B:Nat}(h:Row65 w B)(k:Nat)(b:UInt8):Row65 (w.setCell ⟨B,k,none⟩ (.int .u8 (b.toNat:Int))) B:=by
 obtain⟨C,h1,h2,h3⟩:=h;refine⟨_,blk_setCell h1 _,by simp[h2],fun j hj=> ?_⟩
 by_cases e:j=k
 ·subst e;exact⟨b,by simp[h2,hj]⟩
 ·obtain⟨c,hc⟩:=h3 j hj
  exact⟨c,by rw[Array.getElem?_setIfInBounds_ne (by omega)];exact hc⟩
theorem Row65.cell{w:World}{B:Nat}(h:Row65 w B)(k:Nat)(hk:k<65):∃b:UInt8,w.cell? ⟨B,k,none⟩=some (.int .u8 (b.toNat:Int)):=by
 obtain⟨C,h1,h2,h3⟩:=h;obtain⟨c,hc⟩:=h3 k hk;exact⟨c,by rw[cell_of_row _ _ _ _ _ _ h1];exact hc⟩
theorem Row65.free{w:World}{B:Nat}(h:Row65 w B)(k:Nat):w.frozen? ⟨B,k,none⟩=false:=by
 obtain⟨C,h1,h2,h3⟩:=h;exact frozen_blk h1
theorem Row65.lt{w:World}{B:Nat}(h:Row65 w B):B<w.heap.size:=by
 obtain⟨C,h1,h2,h3⟩:=h;exact lt_of_block h1
theorem Row65.text{w:World}{B:Nat}(h:Row65 w B)(k:Nat)(hk:k≤65):∃s:ByteArray,s.size≤65∧(convert 28 9 (.slice (some ⟨B,k,none⟩) (65-k) (65-k))).run Tryz.prog w= .ok (.string s) w:=by
 obtain⟨f,hf⟩:∃f:Nat→UInt8,∀j,j<65→w.cell? ⟨B,j,none⟩=some (.int .u8 ((f j).toNat:Int)):=
  ⟨fun j=>if hj:j<65 then(h.cell j hj).choose else 0,fun j hj=>by simp only[dif_pos hj];exact(h.cell j hj).choose_spec⟩
 have hl:((List.range (65-k)).map (fun j=>f (k+j))).length=65-k:=by simp
 have:=run_convert_bytes_back (P:=Tryz.prog) w 28 9 5 ⟨B,k,none⟩ (65-k) ((List.range (65-k)).map (fun j=>f (k+j))) Tryz.underlying28 Tryz.underlying5 Tryz.underlying9 (fun j hj=>by
  have e:(⟨B,k,none⟩:Addr).add j=⟨B,k+j,none⟩:=by unfold Addr.add;split<;>simp_all
  rw[e,hf (k+j) (by simp at hj;omega)]
  simp)
 rw[hl]at this;exact⟨_,by show((List.range (65-k)).map (fun j=>f (k+j))).length≤65;omega,this⟩
theorem row65_new(w:World):Row65 (w.alloc (.cells (Array.replicate 65 (.int .u8 0)) 304)) w.heap.size:=
 ⟨_,heap_alloc_new w _,by simp,fun j hj=>⟨0,by simp[hj]⟩⟩
def digs:ByteArray:= { data:= #[48,49,50,51,52,53,54,55,56,57,97,98,99,100,101,102,103,104,105,106,107,108,109,110,111,112,113,114,115,116,117,118,119,120,121,122]}
theorem digit_at(d:Nat)(hd:d<36):∃b:UInt8,∀w:World,(Instr.index 9 (.string digs) (.int .u64 (d:Int))).run Tryz.prog w= .ok (.int .u8 (b.toNat:Int)) w:=by
 have hs:digs.size=36:=rfl;refine⟨digs[d],fun w=> ?_⟩
 have:(d:Int)<(digs.size:Int):=by rw[hs];omega
 go_simp;rw[dif_pos (by omega)];rfl
theorem and15(m:Nat)(h:m<18446744073709551616):bits .and .u64 (m:Int) 15=((m%16:Nat):Int):=by
 have:=u64_and_nat m 15 h (by omega);rw[show((15:Nat):Int)=15 from rfl]at this;rw[this,Nat.and_two_pow_sub_one_eq_mod m 4]
set_option maxRecDepth 100000 in
set_option maxHeartbeats 1600000 in
theorem fmtBits(n:Nat)(hn:n<18446744073709551616)(w:World)(hlt:9<w.heap.size)(ht:w.cell? ⟨9,15,none⟩=some (.int .u8 4)):
    Calls Tryz.prog 215 #[.slice none 0 0,.int .u64 n,.int .i64 16,.bool false,.bool false] w fun e w'=>∃s:ByteArray,s.size≤65∧e= .returned (.tuple #[.slice none 0 0,.string s])∧Below w.heap.size w w':=by
 have HN:=hd' hn;have HT:=hd' ht;have HL:=hd' hlt;clear hn ht hlt;go_enter Tryz.func215,Tryz.ntmps215
 go_wp2_with (first
  | (go_at_call 222;refine(isPow16 _).mono ?_;rintro e w' ⟨rfl,rfl⟩)
  | (go_at_call 223;refine(tz_16 _ ?_).mono ?_;exact(World.cell?_alloc_lt _ _ _ HL.out).trans HT.out;rintro e w' ⟨rfl,rfl⟩))
 go_loopw [1,13] (fun u i wr=>∃m k:Nat,u= .int .u64 m∧i= .int .i64 k∧m<16^(k-49)∧50≤k∧k≤65∧Row65 wr w.heap.size∧Below w.heap.size w wr)
  (fun u i _=>(intOf i).toNat)
 case atStart=>exact⟨n,65,rfl,rfl,by have:=HN.out;simpa using this,by omega,by omega,row65_new w,(Below.refl _ _).alloc (lR' _) _⟩
 case round=>
  obtain⟨m,k,rfl,rfl,hm,hk,hk2,hrow,hb⟩:=hrel;obtain⟨j,rfl⟩:∃j,k=j+1:=⟨k-1,by omega⟩
  have hm64:m<18446744073709551616:=by
   have:16^(j+1-49)≤16^16:=Nat.pow_le_pow_right (by omega) (by omega);omega
  have hw:IntKind.i64.wrap (((j+1:Nat):Int)-1)=(j:Int):=by rw[IntWalk.i64_in _ (by omega)];omega
  obtain⟨b0,hc0⟩:=hrow.cell j (by omega);have hf0:=hrow.free j;have hB:=hrow.lt;have HM:=hd' hm;have HR:=hd' hrow;have HB:=hd' hb;clear hm hrow hb
  by_cases h16:16≤m
  ·have ha:=and15 m hm64
   have hd:m%16<36:=by omega
   have hj:50≤j:=by
    apply Nat.le_of_not_lt;intro h;have:=HM.out;rw[show j+1-49=1 by omega]at this;omega
   have hd0:m/16<16^(j-49):=by
    have:=HM.out;rw[show j+1-49=(j-49)+1 by omega,Nat.pow_succ]at this;omega
   have HD:=hd' hd0;clear hd0;generalize hk:m%16=d at*;obtain⟨b1,hix⟩:=digit_at d hd;unfold digs at hix;have HK:=hd' hk;clear hk
   go_wp2
   go_roundw
   case rel=>exact⟨m/16,j,by go_num,rfl,HD.out,by omega,by omega,HR.out.set j b1,HB.out.setCell (lR' _) _⟩
   case measure=>simp[intOf]
  ·obtain⟨b1,hix⟩:=digit_at m (by omega)
   unfold digs at hix;obtain⟨s,hsz,hcv⟩:=(HR.out.set j b1).text j (by omega);have HS:=hd' hsz;clear hsz
   have hal:Tryz.prog.arrayLen 304=65:=by kernel_rfl
   have hsl:∀W,(Instr.sliceAt 304 (.pointer (some ⟨w.heap.size,0,none⟩)) (some (.int .i64 (j:Int))) none none).run Tryz.prog W= .ok (.slice (some ⟨w.heap.size,j,none⟩) (65-j) (65-j)) W:=fun W=>by
    rw[run_sliceAt_array_l W 304 ⟨w.heap.size,0,none⟩ (by kernel_rfl) .i64 (j:Int) (by omega) (by rw[hal];omega)];rw[hal];go_simp;omega
   clear hal
   go_wp2
   go_ret2
   first | exact⟨⟨s,HS.out,rfl⟩,HB.out.setCell (lR' _) _⟩ | exact⟨s,HS.out,rfl,HB.out.setCell (lR' _) _⟩ | exact⟨s,⟨HS.out,rfl⟩,HB.out.setCell (lR' _) _⟩ | trace_state
def SomeText(m:Nat)(w:World)(e:Ending)(w':World):Prop:=∃s:ByteArray,s.size≤m∧e= .returned (.string s)∧Below w.heap.size w w'
theorem fmtUint0(n:Nat)(hn:n<18446744073709551616)(w:World)(hlt:9<w.heap.size)(ht:w.cell? ⟨9,15,none⟩=some (.int .u8 4)):
    Calls Tryz.prog 195 #[.int .u64 n,.int .i64 16] w (SomeText 65 w):=by
 have HN:=hd' hn;have HT:=hd' ht;have HL:=hd' hlt;clear hn ht hlt;go_enter Tryz.func195,Tryz.ntmps195;go_wp2_with (go_at_call 215;refine(fmtBits n HN.out _ HL.out HT.out).mono ?_;rintro e w1 ⟨s,hs,rfl,hb1⟩);go_ret;exact⟨s,hs,rfl,hb1⟩
theorem fmtUint(n:Nat)(hn:n<18446744073709551616)(w:World)(hlt:9<w.heap.size)(ht:w.cell? ⟨9,15,none⟩=some (.int .u8 4)):
    Calls Tryz.prog 178 #[.int .u64 n,.int .i64 16] w (SomeText 65 w):=by
 have HN:=hd' hn;have HT:=hd' ht;have HL:=hd' hlt;clear hn ht hlt;go_enter Tryz.func178,Tryz.ntmps178;go_wp2_with (go_at_call 195;refine(fmtUint0 n HN.out _ HL.out HT.out).mono ?_;rintro e w1 ⟨s,hs,rfl,hb1⟩);go_ret;exact⟨s,hs,rfl,hb1⟩
end Code
end Go.Proofs.YtljhklblbafjkaaGreatDoor
namespace Go.Proofs.YtljhklblbafjkaaGreatDoor
open Go.RowKit
namespace Code
attribute [local go_sem ↓] Go.wp_at_zero Go.wp_at_succ
theorem tabIs_below{P:Program}{N:Nat}{w w':World}{name:String}{k:IntKind}{zs:List Int}(h:Lib.TabIs P w name k zs)(hb:Below N w w')(hN:w.heap.size≤N):Lib.TabIs P w' name k zs:=by
 unfold Lib.TabIs World.var? at*
 cases hg:P.globalNamed name with
 | none=>simp[hg]at h
 | some g=>
  simp only[hg,Option.bind_some]at h⊢
  have hlt:g<w.heap.size:=by
   rcases Nat.lt_or_ge g w.heap.size with h' | h'
   ·exact h'
   ·simp[Array.getElem?_eq_none h']at h
  rw[hb.block g (Nat.lt_of_lt_of_le hlt hN)];exact h
structure Tabs(w:World):Prop where
 pow:Lib.TabIs Tryz.prog w "internal/strconv.uint64pow10" .u64 Lib.pow10Tab
 spc:Lib.TabIs Tryz.prog w "strings.asciiSpace" .u8 Lib.asciiSpaceTab
 tz:w.cell? ⟨9,15,none⟩=some (.int .u8 4)
theorem Tabs.lt{w:World}(h:Tabs w):9<w.heap.size:=World.block_lt_of_cell? w _ h.tz
theorem Tabs.below{N:Nat}{w w':World}(h:Tabs w)(hb:Below N w w')(hN:w.heap.size≤N):Tabs w':=
 ⟨tabIs_below h.pow hb hN,tabIs_below h.spc hb hN,(hb.cell (p:=⟨9,15,none⟩) (Nat.lt_of_lt_of_le h.lt hN)).trans h.tz⟩
theorem Tabs.drew{w:World}(h:Tabs w):Tabs w.drew:=h.below (N:=w.heap.size) (Below.refl _ _).drew (lR' _)
theorem Tabs.alloc{w:World}(h:Tabs w)(o:Obj):Tabs (w.alloc o):=h.below (N:=w.heap.size) ((Below.refl _ _).alloc (lR' _) o) (lR' _)
theorem below_grow{N:Nat}{w w':World}{os:Array Obj}(h:Below N w w')(hN:N≤w'.heap.size):Below N w (Go.Sort.grow w' os):=
 h.trans ⟨rfl,rfl,rfl,by simp[Go.Sort.grow],fun k hk=>by simp only[Go.Sort.grow];rw[Array.getElem?_append_left (by omega)]⟩
theorem itoa_any(n:Int)(h:B.In64 n)(w:World)(ht:Tabs w):Calls Tryz.prog 168 #[.int .i64 n] w (SomeText 21 w):=by
 unfold B.In64 at h;refine(Tryz.strconv_Itoa n h.1 h.2 w ht.pow).mono ?_;rintro e w' ⟨rfl,k,os,rfl⟩;refine⟨⟨(Lib.itoa n).toArray⟩, ?_,rfl, ?_⟩
 ·exact Lib.itoa_length_le n h.1 h.2
 ·exact below_grow (belowN (Below.refl _ _) _) (by rw[show(w.drewN k).heap=w.heap from rfl];exact lR' _)
set_option maxRecDepth 100000 in
set_option maxHeartbeats 1600000 in
theorem text_number(x:B.Ins)(hx:B.InU64 x.imm)(w:World)(ht:Tabs w):Calls Tryz.prog 177 #[valI x] w (SomeText 80 w):=by
 unfold B.InU64 at hx;obtain⟨m,hm⟩:∃m:Nat,x.imm=m:=⟨x.imm.toNat,by omega⟩
 have hm64:m<18446744073709551616:=by omega
 have HT:=hd' ht;unfold valI;rw[hm];clear hx ht hm;go_enter Tryz.func177,Tryz.ntmps177;go_wp2_with (go_at_call 178;refine(fmtUint m hm64 _ (HT.out.alloc _).lt (HT.out.alloc _).tz).mono ?_;rintro e w1 ⟨s,hs,rfl,hb1⟩);go_ret;exact⟨_,by(rw[ByteArray.size_append];have h2:(ByteArray.mk #[48,120]).size=2:=rfl;omega),rfl,((Below.refl _ _).alloc (lR' _) _).trans (hb1.mono (by simp))⟩
theorem text_sign(x:B.Ins)(w:World):Calls Tryz.prog 199 #[valI x] w (SomeText 80 w):=by
 unfold valI
 by_cases h:x.imm=1
 ·rw[h]
  go_enter Tryz.func199,Tryz.ntmps199
  go_wp2
  go_ret;exact⟨_,by decide,rfl,(Below.refl _ _).alloc (lR' _) _⟩
 ·have hd:(x.imm==1)=false:=by simpa using h
  go_enter Tryz.func199,Tryz.ntmps199
  go_wp2
  go_ret;exact⟨_,by decide,rfl,(Below.refl _ _).alloc (lR' _) _⟩
def TextIn(f b4 b7 X j:Nat)(s:ByteArray)(v:Int)(w:World):Prop:=
 w.cell? ⟨b4,0,none⟩=some (.func (.func f) #[] #[])∧w.cell? ⟨b7,0,none⟩=some (.string s)∧w.cell? ⟨X,j,none⟩=some (.int .i64 v)
theorem TextIn.below{f b4 b7 X j:Nat}{s:ByteArray}{v:Int}{w w':World}{N:Nat}(h:TextIn f b4 b7 X j s v w)(hb:Below N w w')(hN:w.heap.size≤N):TextIn f b4 b7 X j s v w':=
 ⟨(hb.cell (p:=⟨b4,0,none⟩) (Nat.lt_of_lt_of_le (World.block_lt_of_cell? w _ h.1) hN)).trans h.1,(hb.cell (p:=⟨b7,0,none⟩) (Nat.lt_of_lt_of_le (World.block_lt_of_cell? w _ h.2.1) hN)).trans h.2.1,
  (hb.cell (p:=⟨X,j,none⟩) (Nat.lt_of_lt_of_le (World.block_lt_of_cell? w _ h.2.2) hN)).trans h.2.2⟩
theorem textIn_new{f b4 b7 j:Nat}{s:ByteArray}{v:Int}{w:World}(C:Array Value)(t:TypeId)(h4:w.cell? ⟨b4,0,none⟩=some (.func (.func f) #[] #[]))(h7:w.cell? ⟨b7,0,none⟩=some (.string s))(hC:C[j]? =some (.int .i64 v)):
    TextIn f b4 b7 w.heap.size j s v (w.alloc (.cells C t)).drew:=by
 refine⟨?_, ?_, ?_⟩
 ·exact(World.cell?_alloc_lt _ _ _ (World.block_lt_of_cell? w _ h4)).trans h4
 ·exact(World.cell?_alloc_lt _ _ _ (World.block_lt_of_cell? w _ h7)).trans h7
 ·exact(cell_of_row _ _ _ _ _ _ (heap_alloc_new w _)).trans hC
set_option maxRecDepth 100000 in
set_option maxHeartbeats 3200000 in
theorem text_small(k:Nat)(hk:k≤2)(b7 b4:Nat)(s:ByteArray)(x:B.Ins)(hx:x.Wf)(hs:s.size≤1)(w:World)(ht:Tabs w)(h4:w.cell? ⟨b4,0,none⟩=some (fn0 (atFn k)))(h7:w.cell? ⟨b7,0,none⟩=some (.string s)):
    Calls Tryz.prog 167 #[valI x,P0 b7,P0 b4] w (SomeText 80 w):=by
 have HT:=hd' ht;have HX:=hd' hx;have hl4:=World.block_lt_of_cell? w _ h4;have hl7:=World.block_lt_of_cell? w _ h7;simp only at hl4 hl7;unfold valI P0;clear ht hx;rcases(show k=0∨k=1∨k=2 by omega)with rfl | rfl | rfl
 ·have e:fn0 (atFn 0)= .func (.func 136) #[] #[]:=rfl
  rw[e]at h4;clear e;go_enter Tryz.func167,Tryz.ntmps167;go_wp2_with fail
  go_region_held3 (fun w'=>w'.cell? ⟨b4,0,none⟩=some (.func (.func 136) #[] #[])∧w'.cell? ⟨b7,0,none⟩=some (.string s)∧w'.cell? ⟨w.heap.size,1,none⟩=some (.int .i64 x.a))
   (first | exact textIn_new _ _ h4 h7 rfl | exact TextIn.below (by assumption) hb1 (lR' _) | assumption)
   (first
    | (go_at_call 136;refine(fieldA_any _ _ _).mono ?_;rintro e w1 ⟨rfl,rfl⟩)
    | (go_at_call 168;refine(itoa_any _ HX.out.a _ (HT.out.alloc _).drew).mono ?_;rintro e w1 ⟨s1,hs1,rfl,hb1⟩;have hcat:¬(9223372036854775807<s.size+s1.size):=by omega))
  all_goals go_wp2
  all_goals go_ret
  all_goals exact⟨_,by(rw[ByteArray.size_append];omega),rfl,below_into hb1 (by simp)⟩
 ·have e:fn0 (atFn 1)= .func (.func 137) #[] #[]:=rfl
  rw[e]at h4;clear e;go_enter Tryz.func167,Tryz.ntmps167;go_wp2_with fail
  go_region_held3 (fun w'=>w'.cell? ⟨b4,0,none⟩=some (.func (.func 137) #[] #[])∧w'.cell? ⟨b7,0,none⟩=some (.string s)∧w'.cell? ⟨w.heap.size,2,none⟩=some (.int .i64 x.b))
   (first | exact textIn_new _ _ h4 h7 rfl | exact TextIn.below (by assumption) hb1 (lR' _) | assumption)
   (first
    | (go_at_call 137;refine(fieldB_any _ _ _).mono ?_;rintro e w1 ⟨rfl,rfl⟩)
    | (go_at_call 168;refine(itoa_any _ HX.out.b _ (HT.out.alloc _).drew).mono ?_;rintro e w1 ⟨s1,hs1,rfl,hb1⟩;have hcat:¬(9223372036854775807<s.size+s1.size):=by omega))
  all_goals go_wp2
  all_goals go_ret
  all_goals exact⟨_,by(rw[ByteArray.size_append];omega),rfl,below_into hb1 (by simp)⟩
 ·have e:fn0 (atFn 2)= .func (.func 181) #[] #[]:=rfl
  rw[e]at h4;clear e;go_enter Tryz.func167,Tryz.ntmps167;go_wp2_with fail
  go_region_held3 (fun w'=>w'.cell? ⟨b4,0,none⟩=some (.func (.func 181) #[] #[])∧w'.cell? ⟨b7,0,none⟩=some (.string s)∧w'.cell? ⟨w.heap.size,3,none⟩=some (.int .i64 x.n))
   (first | exact textIn_new _ _ h4 h7 rfl | exact TextIn.below (by assumption) hb1 (lR' _) | assumption)
   (first
    | (go_at_call 181;refine(fieldN_any _ _ _).mono ?_;rintro e w1 ⟨rfl,rfl⟩)
    | (go_at_call 168;refine(itoa_any _ HX.out.n _ (HT.out.alloc _).drew).mono ?_;rintro e w1 ⟨s1,hs1,rfl,hb1⟩;have hcat:¬(9223372036854775807<s.size+s1.size):=by omega))
  all_goals go_wp2
  all_goals go_ret
  all_goals exact⟨_,by(rw[ByteArray.size_append];omega),rfl,below_into hb1 (by simp)⟩
end Code
end Go.Proofs.YtljhklblbafjkaaGreatDoor
namespace Go.Proofs.YtljhklblbafjkaaGreatDoor
open Go.RowKit
namespace Code
attribute [local go_sem ↓] Go.wp_at_zero Go.wp_at_succ
theorem text_call{w:World}{fk:FK}{v0 v1 v2 v3 v4:Value}(h:FieldAt w fk v0 v1 v2 v3 v4):∃f caps,FnVal v3 f caps∧
    ∀(N:Nat) (w2:World) (x:B.Ins) (args:Array Value),Below N w w2→w.heap.size≤N→x.Wf→Tabs w2→args= #[valI x]++caps→Calls Tryz.prog f args w2 (SomeText 80 w2):=by
 cases fk with
 | small k lo hi=>
  obtain⟨hk,b4,b5,b6,b7,hc,rfl,rfl,rfl,rfl,rfl⟩:=h;refine⟨_,_,en_small4 _ _,fun N w2 x args hb hN hx ht he=> ?_⟩
  obtain rfl:args= #[valI x,P0 b7,P0 b4]:=by simpa using he
  have hc2:=hc.below hb hN;obtain⟨s,hs,h7⟩:=hc2.c7;exact text_small k hk b7 b4 s x hx hs w2 ht hc2.c4 h7
 | number=>
  obtain⟨rfl,rfl,rfl,rfl,rfl⟩:=h;refine⟨_,_,en_number4,fun N w2 x args hb hN hx ht he=> ?_⟩
  obtain rfl:args= #[valI x]:=by simpa using he
  exact text_number x hx.imm w2 ht
 | sign=>
  obtain⟨rfl,rfl,rfl,rfl,rfl⟩:=h;refine⟨_,_,en_sign2,fun N w2 x args hb hN hx ht he=> ?_⟩
  obtain rfl:args= #[valI x]:=by simpa using he
  exact text_sign x w2
 | skip=>
  obtain⟨b4,b5,b6,b7,hc,rfl,rfl,rfl,rfl,rfl⟩:=h;refine⟨_,_,en_small4 _ _,fun N w2 x args hb hN hx ht he=> ?_⟩
  obtain rfl:args= #[valI x,P0 b7,P0 b4]:=by simpa using he
  have hc2:=hc.below hb hN;obtain⟨s,hs,h7⟩:=hc2.c7;exact text_small 2 (by omega) b7 b4 s x hx hs w2 ht hc2.c4 h7
 | bytes=>
  obtain⟨b4,b5,b6,b7,hc,rfl,rfl,rfl,rfl,rfl⟩:=h;refine⟨_,_,en_small4 _ _,fun N w2 x args hb hN hx ht he=> ?_⟩
  obtain rfl:args= #[valI x,P0 b7,P0 b4]:=by simpa using he
  have hc2:=hc.below hb hN;obtain⟨s,hs,h7⟩:=hc2.c7;exact text_small 2 (by omega) b7 b4 s x hx hs w2 ht hc2.c4 h7
def namesL:List UInt8:=[104,97,108,116,32,99,111,110,115,116,32,109,111,118,101,32,97,110,100,32,111,114,32,120,111,114,32,115,104,108,32,115,104,114,32,109,97,115,107,32,108,111,97,100,32,108,111,97,100,98,105]++[103,32,115,116,111,114,101,32,115,116,111,114,101,98,105,103,32,98,108,101,110,100,32,115,105,103,110,32,105,110,32,111,117,116,32,102,105,116,115,32,115,107,105,112,32,115,107,105,112,110,101]
theorem names_len:(Lib.fields namesL).length=20:=by decide+kernel
theorem names_short:∀l∈Lib.fields namesL,l.length≤10:=by decide+kernel
theorem names_ascii:∀b∈namesL,b.toNat<128:=by decide+kernel
def WordsOut(w:World)(e:Ending)(w':World):Prop:=
 ∃C:Array Value,(∀j,j<20→∃s:ByteArray,s.size≤10∧C[j]? =some (.string s))∧e= .returned (.slice (some ⟨w.heap.size,0,none⟩) 20 20)∧w'=w.alloc (.cells C 9)
theorem fields_any(s:ByteArray)(hs:s.data.toList=namesL)(w:World)(ht:Tabs w):Calls Tryz.prog 108 #[.string s] w (WordsOut w):=by
 have hsz:s.size=namesL.length:=by rw[←hs];rfl
 have h102:namesL.length≤200:=by decide
 refine(Tryz.strings_Fields s w (by omega) (fun j b hb=>names_ascii b (by rw[←hs];exact List.mem_of_getElem? hb)) ht.spc).mono ?_;rintro e w' ⟨rfl,rfl⟩;rw[hs];refine⟨((Lib.fields namesL).map fun l=>Value.string ⟨l.toArray⟩).toArray,fun j hj=> ?_, ?_,rfl⟩
 ·have hj':j<(Lib.fields namesL).length:=by rw[names_len];exact hj
  refine⟨⟨((Lib.fields namesL)[j]).toArray⟩, ?_, ?_⟩
  ·exact names_short _ (List.getElem_mem hj')
  ·simp[List.getElem?_eq_getElem hj']
 ·rw[names_len]
theorem MapIs.below{N:Nat}{w w':World}{b:Nat}{l:List (Int×Value)}(h:MapIs w b l)(hb:Below N w w')(hN:b<N):MapIs w' b l:=by
 obtain⟨es,clock,h1,h2⟩:=h;exact⟨es,clock,(hb.block b hN).trans h1,h2⟩
theorem MapIs.lt{w:World}{b:Nat}{l:List (Int×Value)}(h:MapIs w b l):b<w.heap.size:=by
 obtain⟨es,clock,h1,h2⟩:=h;exact lt_of_block h1
def errno(n:Int):Value:=.iface 93 (.int .i64 n)
def PrintOut(x:B.Ins)(w:World)(e:Ending)(w':World):Prop:=
 (∃s:ByteArray,e= .returned (.tuple #[.string s,if x.right=true then .nilIface else errno 20]))∧Below w.heap.size w w'
set_option maxRecDepth 100000 in
set_option maxHeartbeats 3200000 in
theorem print_any(x:B.Ins)(w:World)(hx:x.Wf)(ht:Tabs w):Calls Tryz.prog 72 #[valI x] w (PrintOut x w):=by
 have HX:=hd' hx;have HT:=hd' ht;clear hx ht;unfold valI;go_enter Tryz.func72,Tryz.ntmps72;go_wp2_with fail;refine(made_any _).mono ?_;rintro e w1 ⟨T,b,rfl,hb0,hm,hTb,hb1⟩;have hr:=res_cell hb1 (by simp);have hs1:=hb1.size
 have hsX:w.heap.size<w1.heap.size:=by simp at hs1;omega
 have HW1:=hd' (((Below.refl w.heap.size w).alloc (lR' _) _).trans (hb1.mono (by simp)));have HM:=hd' hm;have HTB:=hd' hTb;clear hm hTb hb0 hb1;go_wp2_with fail;refine(right_any x T b _ HX.out HM.out HTB.out HM.out.lt).mono ?_;rintro e w2 ⟨rfl,hb2⟩
 have hr2:∀j,w2.cell? ⟨w.heap.size,j,none⟩=(#[.int .i64 x.op,.int .i64 x.a,.int .i64 x.b,.int .i64 x.n,.int .u64 x.imm]:Array Value)[j]? :=fun j=>(hb2.cell (p:=⟨w.heap.size,j,none⟩) hsX).trans (hr j)
 have hs2:=hb2.size;have HB2:=hd' hb2;clear hb2
 by_cases hright:x.right=true
 ·have HO:Hid (B.isOp x.op=true):=by
    show B.isOp x.op=true
    have:=(B.right_bounds hright).1;unfold B.isOp;simp;omega
  have HRI:=hd' hright;go_wp2_with fail;refine(of_any x.op T b _ (HM.out.below HB2.out HM.out.lt) (HTB.out.below HB2.out (lR' _)) HO.out).mono ?_;rintro e w3 ⟨ao,n,cap,rfl,hfs,hb3⟩;have hs3:=hb3.size;have HB3:=hd' hb3;have HFS:=hd' hfs
  have hr3:∀j,w3.cell? ⟨w.heap.size,j,none⟩=(#[.int .i64 x.op,.int .i64 x.a,.int .i64 x.b,.int .i64 x.n,.int .u64 x.imm]:Array Value)[j]? :=fun j=>(hb3.cell (p:=⟨w.heap.size,j,none⟩) (Nat.lt_of_lt_of_le hsX hs2)).trans (hr2 j)
  clear hb3 hfs hr2 hr;have hx0:w3.cell? ⟨w.heap.size,0,none⟩=some (.int .i64 x.op):=(hr3 0).trans rfl;have hop:=(B.right_bounds HRI.out).1;have hop0:0≤x.op:=hop.1
  have hop20:x.op<20:=by omega
  clear hop;go_wp2_with fail;refine wp_region_held_drew (S:=fun w'=>w'.cell? ⟨w.heap.size,0,none⟩=some (.int .i64 x.op)) (by kernel_rfl) hx0 (fun hS1=> ?_);refine wpAnyH_take (i:=1) (v:=.pointer (some ⟨w.heap.size,0,none⟩)) rfl (by kernel_rfl) (by kernel_rfl) (by kernel_rfl) (fun _ _ _ h=>h) (Or.inl ⟨by rfl,fun w' _=>by go_simp⟩) hS1 ?_;simp only[Act.put,List.setIfInBounds_toArray];refine wpAnyH_take (i:=2) (v:=.int .i64 x.op) rfl (by kernel_rfl) (by kernel_rfl) (by kernel_rfl) (fun _ _ _ h=>h) (Or.inl ⟨by rfl,fun w' hw'=>by go_simp⟩) hS1 ?_;simp only[Act.put];refine wpAnyH_ready (rs:=[0]) (by kernel_rfl) (by simp) ?_;refine AllReadyH.cons rfl (fun K hK=> ?_) AllReadyH.nil;go_simp;refine(fields_any _ ?hs _ ?ht).mono ?_
  case hs=>rfl
  case ht=>exact(((HT.out.below HW1.out (lR' _)).below (HB2.out.trans (HB3.out.mono hs2)) (lR' _)).drew)
  rintro e w4 ⟨C,hC,rfl,rfl⟩;refine hK.out _ _ ((World.cell?_alloc_lt w3.drew _ ⟨w.heap.size,0,none⟩ (World.block_lt_of_cell? _ _ hS1)).trans hS1) (fun hS2=> ?_);clear hK K;obtain⟨s0,hs0,hC0⟩:=hC x.op.toNat (by omega);refine wpAnyH_take (i:=3) (v:=.pointer (some ⟨w3.heap.size,x.op.toNat,none⟩)) rfl (by kernel_rfl) (by kernel_rfl) (by kernel_rfl) (fun _ _ _ h=>h) (Or.inl ⟨by rfl,fun w' hw'=>by go_simp⟩) hS2 ?_;simp only[Act.put,List.setIfInBounds_toArray];refine wpAnyH_ready (rs:=[4]) (by kernel_rfl) (by simp) ?_;refine AllReadyH.cons rfl (fun K hK=> ?_) AllReadyH.nil;go_simp;refine hK.out _ _ hS2 (fun hS3=> ?_);clear hK K;refine wpAnyH_take (i:=5) (v:=.string s0) rfl (by kernel_rfl) (by kernel_rfl) (by kernel_rfl) (fun _ _ _ h=>h) (Or.inl ⟨by rfl,fun w' _=>by rfl⟩) hS3 ?_;refine wpAnyH_done (by kernel_rfl) ?_ _;clear hS1 hS2 hS3 hC hC0 hx0;have hn:=HFS.out.len
  have hn4:=fieldsOf_len x.op;have HN:=hd' hn
  have hn':n≤4:=by omega
  clear hn hn4
  have hsX3:w.heap.size<w3.heap.size:=by omega
  go_wp2_with fail
  go_loopw [30,7] (fun i s wr=>∃(k:Nat) (t:ByteArray),i= .int .i64 k∧k≤n∧s= .string t∧t.size≤100*k+100∧Below w3.heap.size w3 wr)
   (fun i _ _=>n-(intOf i).toNat)
  case atStart=>exact⟨0,s0,rfl,Nat.zero_le _,rfl,by omega,((Below.refl _ _).drew).alloc (lR' _) _⟩
  case round=>
   obtain⟨k,t,rfl,hk,rfl,ht,hb4⟩:=hrel;have hs4:=hb4.size
   by_cases hlt:k<n
   ·have hfk:(fieldsOf x.op)[k]? =some ((fieldsOf x.op)[k]'(by have:=HN.out;omega)):=List.getElem?_eq_getElem _
    generalize(fieldsOf x.op)[k]'(by have:=HN.out;omega)=fk at hfk;obtain⟨g,v0,v1,v2,v3,v4,rfl,hg,d0,d1,d2,d3,d4,hF⟩:=HFS.out.at_ k fk hfk;have c0:=(hb4.cell (p:=⟨g,_,none⟩) hg).trans d0;have c1:=(hb4.cell (p:=⟨g,_,none⟩) hg).trans d1;have c2:=(hb4.cell (p:=⟨g,_,none⟩) hg).trans d2;have c3:=(hb4.cell (p:=⟨g,_,none⟩) hg).trans d3;have c4:=(hb4.cell (p:=⟨g,_,none⟩) hg).trans d4
    have hgw:g<wr.heap.size:=by omega
    clear d0 d1 d2 d3 d4;obtain⟨⟨f0,caps0,rfl⟩,⟨f1,caps1,rfl⟩,⟨f2,caps2,rfl⟩,_,f4,caps4,rfl⟩:=hF.fns;obtain⟨f3,caps3,⟨rfl,hen3⟩,hcall3⟩:=text_call hF
    have hrr:∀j,wr.cell? ⟨w.heap.size,j,none⟩=(#[.int .i64 x.op,.int .i64 x.a,.int .i64 x.b,.int .i64 x.n,.int .u64 x.imm]:Array Value)[j]? :=fun j=>(hb4.cell (p:=⟨w.heap.size,j,none⟩) hsX3).trans (hr3 j)
    have hXw:w.heap.size<wr.heap.size:=by omega
    have HCA:=hd' hcall3;have HB4:=hd' hb4;have HT4:=hd' (((HT.out.below HW1.out (lR' _)).below (HB2.out.trans (HB3.out.mono hs2)) (lR' _)).below hb4 (lR' _));clear hcall3 hfk hF hb4;go_wp2_with fail;refine(HCA.out w3.heap.size _ x _ (HB4.out.alloc hs4 _) (lR' _) HX.out (HT4.out.alloc _) rfl).mono ?_;rintro e w5 ⟨s1,hs1',rfl,hb5⟩;have HB5:=hd' ((HB4.out.alloc hs4 _).trans (hb5.mono (by simp;omega)))
    have hc1:¬(9223372036854775807<1+s1.size):=by omega
    have hc2:¬(9223372036854775807<t.size+(1+s1.size)):=by omega
    clear hb5;go_wp2_with fail;go_roundw
    case rel=>exact⟨k+1,_,by go_num,by omega,rfl,by(rw[ByteArray.size_append,ByteArray.size_append];have h2:(ByteArray.mk #[32]).size=1:=rfl;omega),HB5.out⟩
    case measure=>simp[intOf];omega
   ·have HB4:=hd' hb4
    clear hb4;go_wp2_with fail;go_ret2;refine⟨⟨t, ?_⟩,(HW1.out.trans (HB2.out.mono (by omega))).trans ((HB3.out.mono (by omega)).trans (HB4.out.mono (by omega)))⟩;rw[HRI.out];rfl
 ·have hright':x.right=false:=by simpa using hright
  clear hright;go_wp2_with fail;go_ret2;refine⟨⟨⟨#[]⟩, ?_⟩,HW1.out.trans (HB2.out.mono (by omega))⟩;rw[hright'];rfl
end Code
end Go.Proofs.YtljhklblbafjkaaGreatDoor
