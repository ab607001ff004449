/- Pieces for LowerRight that the smaller base lacks. -/
import Derived.Test.YtljhklblbafjkaaGreatDoorNcN
import Derived.Test.YtljhklblbafjkaaGreatDoorLwU
import Derived.Test.YtljhklblbafjkaaGreatDoorErrQ
import Derived.Test.YtljhklblbafjkaaGreatDoorLxQ
import Derived.Test.YtljhklblbafjkaaGreatDoorRowQ
import Derived.Test.YtljhklblbafjkaaGreatDoorLoQ
import Derived.Deep.QuietTactic
import Derived.BigQuiet
import Derived.Test.YtljhklblbafjkaaGreatDoorLwO
import Derived.Test.YtljhklblbafjkaaGreatDoorLwE
open Go.Lib renaming hid→hd'
open Nat renaming le_refl→lR'
namespace Go.Proofs.YtljhklblbafjkaaGreatDoor
open Go.RowKit
namespace Code
theorem cellsP_one(x:B.Ins):cellsP [x]=cellsI x:=by simp[cellsP]
namespace One
def markL(V:Nat→Nat→Value)(k n:Nat):List Value:=(List.range n).map (V k)
theorem markL_length(V:Nat→Nat→Value)(k n:Nat):(markL V k n).length=n:=by simp[markL]
theorem markL_get(V:Nat→Nat→Value)(k n i:Nat)(h:i<n):(markL V k n)[i]? =some (V k i):=by
 unfold markL;rw[List.getElem?_map,List.getElem?_range h];rfl
theorem markL_succ(V:Nat→Nat→Value)(k n:Nat):markL V k (n+1)=markL V k n++[V k n]:=by unfold markL;rw[List.range_succ,List.map_append];rfl
theorem markL_take(V:Nat→Nat→Value)(k n m:Nat)(h:m≤n):(markL V k n).take m=markL V k m:=by
 unfold markL;rw[←List.map_take,List.take_range,Nat.min_eq_left h]
end One
attribute [local go_sem ↓] Go.wp_at_zero Go.wp_at_succ
set_option maxRecDepth 100000 in
set_option maxHeartbeats 1600000 in
theorem num_err(T:TypeId)(x:Value)(n:Nat)(hv:IsErr (.iface T x) n)(h1:1≤n)(h26:n≤26)(w:World):Calls Tryz.prog 44 #[.iface T x] w fun e w'=>e= .returned (.int .i64 n)∧Below w.heap.size w w':=by
 have HV:=hd' hv;clear hv;go_enter Tryz.func44,Tryz.ntmps44;go_wp2_with fail
 go_loopw [3,4] (fun f i wr=>∃k:Nat,i= .int .i64 k∧1≤k∧k≤27∧f= .int .i64 ((if n<k then n else 0:Nat):Int)∧Below w.heap.size w wr) (fun _ i _=>27-(intOf i).toNat)
 case atStart=>exact⟨1,rfl,by omega,by omega,by rw[if_neg (by omega)];rfl,Below.refl _ _⟩
 case round=>
  obtain⟨k,rfl,hk1,hk2,rfl,hb⟩:=hrel;have HB:=hd' hb;have hsz:=hb.size;clear hb
  by_cases hlt:k≤26
  ·have hc:decide ((k:Int)≤26)=true:=by simp;omega
   by_cases he:n=k
   ·subst he
    rw[if_neg (by omega)];go_wp2_with fail;refine(errorsIs_any _ _ n HV.out _).mono ?_;rintro e w1 ⟨rfl,hb1⟩;have HB1:=hd' (HB.out.trans (hb1.mono hsz));clear hb1;go_wp2_with fail;go_roundw
    case rel=>exact⟨n+1,by go_num,by omega,by omega,by rw[if_pos (by omega)],HB1.out⟩
    case measure=>simp[intOf];omega
   ·have hne:((n:Int)==(k:Int))=false:=by simp;omega
    have HE:=hd' he;clear he;generalize hf:(if n<k then n else 0)=f at*;have HF:=hd' hf;clear hf;go_wp2_with fail;refine(errorsIs_any _ _ k HV.out _).mono ?_;rintro e w1 ⟨rfl,hb1⟩;have HB1:=hd' (HB.out.trans (hb1.mono hsz));clear hb1;go_wp2_with fail;go_roundw
    case rel=>
     refine⟨k+1,by go_num,by omega,by omega, ?_,HB1.out⟩;rw[←HF.out];have:=HE.out
     by_cases h:n<k
     ·rw[if_pos h,if_pos (by omega)]
     ·rw[if_neg h,if_neg (by omega)]
    case measure=>simp[intOf];omega
  ·obtain rfl:k=27:=by omega
   rw[if_pos (by omega)]
   have hn0:((n:Int)==0)=false:=by simp;omega
   go_wp2_with fail;refine(errorsIs_any _ _ 0 HV.out _).mono ?_;rintro e w1 ⟨rfl,hb1⟩;have HB1:=hd' (HB.out.trans (hb1.mono hsz));clear hb1;go_wp2_with fail;go_ret;exact⟨rfl,HB1.out⟩
end Code
end Go.Proofs.YtljhklblbafjkaaGreatDoor
namespace Go.Proofs.YtljhklblbafjkaaGreatDoor
open Go.RowKit
namespace Code
def BoolOut(b:Bool)(w:World)(r:Ending)(w':World):Prop:=r= .returned (.bool b)∧Below w.heap.size w w'
theorem MsgWf.ok{m:B.Msg}(hm:MsgWf m)(h0:m.no.1=0):m.Ok:=B.Msg.ok_of h0 (fun s hs=>(hm.sigs s hs).branch)
attribute [local go_sem ↓] Go.wp_at_zero Go.wp_at_succ
theorem rmessage_ok(m:B.Msg)(sa:Option Addr)(n cap:Nat)(w:World)(hm:MsgWf m)(hs:SigsAt w sa n m.sigs)(h:m.no.1=0):
    Calls Tryz.prog 7 #[.agg (msgC m (.slice sa n cap))] w (fun e w'=>e= .returned (.agg #[.int .i64 0,.int .i64 0,.int .i64 0])∧Below w.heap.size w w'):=by
 refine(rmessage_any m sa n cap w hm hs).mono ?_;rintro e w' ⟨he,hb⟩;unfold faultC at he;rw[if_pos h]at he;exact⟨he,hb⟩
theorem rmessage_no(m:B.Msg)(sa:Option Addr)(n cap:Nat)(w:World)(hm:MsgWf m)(hs:SigsAt w sa n m.sigs)(h:m.no.1≠0):
    Calls Tryz.prog 7 #[.agg (msgC m (.slice sa n cap))] w (fun e w'=>e= .returned (.agg #[.int .i64 m.no.1,.int .i64 m.no.2.1,.int .i64 m.no.2.2])∧Below w.heap.size w w'):=by
 refine(rmessage_any m sa n cap w hm hs).mono ?_;rintro e w' ⟨he,hb⟩;unfold faultC at he;rw[if_neg h]at he;exact⟨he,hb⟩
end Code
end Go.Proofs.YtljhklblbafjkaaGreatDoor
namespace Go.Proofs.YtljhklblbafjkaaGreatDoor
open Go.RowKit
namespace Code
namespace One
attribute [local go_sem ↓] Go.wp_at_zero Go.wp_at_succ
def lowB(z:Int):UInt8:=UInt8.ofNat (z%256).toNat
theorem lowB_toNat(z:Int):((lowB z).toNat:Int)=z%256:=by
 have h2:(lowB z).toNat=(z%256).toNat:=by
  have:z%256<256:=Int.emod_lt_of_pos _ (by decide);have h0:0≤z%256:=Int.emod_nonneg _ (by decide)
  show(z%256).toNat%256=_
  omega
 rw[h2];have:0≤z%256:=Int.emod_nonneg _ (by decide);omega
def mkT(k i:Int):ByteArray:=⟨#[35,lowB k,lowB (k/256),lowB i,lowB (i/256)]⟩
def MarkTOut(x:ByteArray)(w:World)(e:Ending)(w':World):Prop:=e= .returned (.string x)∧Below w.heap.size w w'
theorem markT_conv(k i:Int)(hk:0≤k∧k≤100)(w:World):(convert 28 9 (.slice (some ⟨w.heap.size,0,none⟩) 5 5)).run Tryz.prog (w.alloc (.cells #[.int .u8 35,.int .u8 k,.int .u8 (k/256),.int .u8 (i%256),.int .u8 (i/256%256)] 5))
    = .ok (.string (mkT k i)) (w.alloc (.cells #[.int .u8 35,.int .u8 k,.int .u8 (k/256),.int .u8 (i%256),.int .u8 (i/256%256)] 5)):=by
 refine run_convert_bytes_back (P:=Tryz.prog) _ 28 9 5 ⟨w.heap.size,0,none⟩ 5 [35,lowB k,lowB (k/256),lowB i,lowB (i/256)] Tryz.underlying28 Tryz.underlying5 Tryz.underlying9 (fun j hj=> ?_)
 have ea:(⟨w.heap.size,0,none⟩:Addr).add j=⟨w.heap.size,j,none⟩:=by unfold Addr.add;split<;>simp_all
 rw[ea,cell_of_row _ _ _ _ _ _ (heap_alloc_new w _)]
 match j,hj with
 | 0,_=>rfl
 | 1,_=>
  show some (Value.int .u8 k)=some (.int .u8 ((lowB k).toNat:Int))
  rw[lowB_toNat,show k%256=k by omega]
 | 2,_=>
  show some (Value.int .u8 (k/256))=some (.int .u8 ((lowB (k/256)).toNat:Int))
  rw[lowB_toNat,show k/256%256=k/256 by omega]
 | 3,_=>
  show some (Value.int .u8 (i%256))=some (.int .u8 ((lowB i).toNat:Int))
  rw[lowB_toNat]
 | 4,_=>
  show some (Value.int .u8 (i/256%256))=some (.int .u8 ((lowB (i/256)).toNat:Int))
  rw[lowB_toNat]
 | n+5,h=>exact absurd h (by simp)
set_option maxRecDepth 100000 in
set_option maxHeartbeats 1600000 in
theorem markText_any(k i:Int)(hk:0≤k∧k≤100)(hi: -1000000000000000000≤i∧i≤1000000000000000000)(w:World):
    Calls Tryz.prog 188 #[.int .i64 k,.int .i64 i] w (MarkTOut (mkT k i) w):=by
 have hcv:=markT_conv k i hk w;obtain⟨hk0,hk1⟩:=hk;obtain⟨hi0,hi1⟩:=hi;go_enter Tryz.func188,Tryz.ntmps188;go_wp2_with fail;go_ret;exact⟨rfl,(Below.refl _ _).alloc (lR' _) _⟩
theorem markT_any(k i:Int)(hk:0≤k∧k≤100)(hi: -1000000000000000000≤i∧i≤1000000000000000000)(w:World):
    Calls Tryz.prog 162 #[.int .i64 k,.int .i64 i] w (MarkTOut (mkT k i) w):=by
 have HMK:=markText_any k i hk hi w;unfold MarkTOut at HMK;go_enter Tryz.func162,Tryz.ntmps162;go_wp2_with fail;refine HMK.mono ?_;rintro e w3 ⟨rfl,hb⟩;go_wp2_with fail;go_ret;exact⟨rfl,hb⟩
end One
end Code
end Go.Proofs.YtljhklblbafjkaaGreatDoor
namespace Go.Proofs.YtljhklblbafjkaaGreatDoor
open Go.RowKit
namespace Code
namespace One
attribute [local go_sem ↓] Go.wp_at_zero Go.wp_at_succ
theorem infoET:(Tryz.prog.info? 9).map (fun i=>(i.zero,i.size,i.bytes))=some (some (.string ⟨#[]⟩),1,16):=by kernel_rfl
def mkTV(k i:Nat):Value:=.string (mkT k i)
set_option maxHeartbeats 1600000 in
theorem fullT_any(a:Option Addr)(len cap:Nat)(l:List ByteArray)(w:World)(hp:ListAt w a len (l.map Value.string))(hr:len*16≤140737488351232):
    Calls Tryz.prog 131 #[.slice a len cap] w fun e w'=>∃ao cap',e= .returned (.slice ao (len+16) cap')∧OwnV 9 w' w.heap.size ao (len+16) cap' (l.map Value.string++markL mkTV 90 16)∧Below w.heap.size w w':=by
 have HP:=hd' hp;have HLL:Hid (len=l.length):=hd' (by simpa using hp.len);clear hp;go_enter Tryz.func131,Tryz.ntmps131
 go_wp2
 go_loopw [3,4] (fun v i wr=>∃(k:Nat) (ao:Option Addr) (cp:Nat),k≤len∧i= .int .i64 k∧v= .slice ao k cp∧OwnV 9 wr w.heap.size ao k cp ((l.take k).map Value.string)∧Below w.heap.size w wr)
  (fun _ i _=>len-(intOf i).toNat)
 case atStart=>exact⟨0,none,0,Nat.zero_le _,rfl,rfl,OwnV.nil _ _ _,Below.refl _ _⟩
 case round=>
  obtain⟨k,ao,cp,hk,rfl,rfl,hown,hb⟩:=hrel;have HB:=hd' hb;have HO:=hd' hown;have hsz:=hb.size
  by_cases hlt:k<len
  ·have hx:l[k]? =some (l[k]'(by have:=HLL.out;omega)):=List.getElem?_eq_getElem _
   generalize l[k]'(by have:=HLL.out;omega)=x at hx;obtain⟨b,off,rfl,hbl,hc⟩:=HP.out.at_ k (Value.string x) (by rw[List.getElem?_map,hx];rfl);replace hc:=(hb.cell (p:=⟨b,off+k,none⟩) hbl).trans hc;have HX:=hd' hx;clear hx hown hb;go_wp2_with (at_builtin;refine app_one Tryz.underlying69 infoET rfl rfl _ _ rfl w.heap.size rfl HO.out rfl rfl (by omega) (by omega) (by omega) ?_;intro ao' cap' w1 hown1 _ _ hb1);go_roundw
   case rel=>exact⟨k+1,ao',cap',by omega,by go_num,rfl,by rw[List.take_add_one,HX.out,List.map_append];exact hown1,HB.out.trans (hb1.mono (lR' _))⟩
   case measure=>simp[intOf];omega
  ·obtain rfl:k=len:=by omega
   have HO2:Hid (OwnV 9 wr w.heap.size ao k cp (l.map Value.string)):=by
    have:=hown;rw[List.take_of_length_le (by have:=HLL.out;omega)]at this;exact this
   clear hown hb HO
   go_wp2
   go_loopw [3,5] (fun v i w2=>∃(m:Nat) (ao:Option Addr) (cp:Nat),m≤16∧i= .int .i64 m∧v= .slice ao (k+m) cp∧OwnV 9 w2 w.heap.size ao (k+m) cp (l.map Value.string++markL mkTV 90 m)∧Below w.heap.size w w2)
    (fun _ i _=>16-(intOf i).toNat)
   case atStart=>exact⟨0,ao,cp,by omega,rfl,rfl,by simpa[markL]using HO2.out,HB.out⟩
   case round=>
    obtain⟨m,ao2,cp2,hm,rfl,rfl,hown2,hb2⟩:=hrel;have HB2:=hd' hb2;have HO3:=hd' hown2;have hsz2:=hb2.size;clear hb2 hown2
    by_cases hlt2:m<16
    ·have HMK:=markT_any 90 m (by omega) (by omega)
     unfold MarkTOut at HMK;go_wp2_with fail;refine(HMK _).mono ?_;rintro e w3 ⟨rfl,hb3⟩;have HO4:=hd' (HO3.out.kept hb3);have HB3:=hd' (HB2.out.trans (hb3.mono hsz2));have hsz3:=HB3.out.size;clear hb3;go_wp2_with (at_builtin;refine app_one Tryz.underlying69 infoET rfl rfl _ _ rfl w.heap.size rfl HO4.out rfl rfl (by omega) (by omega) (by omega) ?_;intro ao' cap' w1 hown1 _ _ hb1);go_roundw
     case rel=>exact⟨m+1,ao',cap',by omega,by go_num,by rw[Nat.add_assoc],by rw[markL_succ,←List.append_assoc];exact hown1,HB3.out.trans hb1⟩
     case measure=>simp[intOf];omega
    ·obtain rfl:m=16:=by omega
     go_wp2
     go_ret;exact⟨ao2,cp2,rfl,HO3.out,HB2.out⟩
set_option maxHeartbeats 1600000 in
theorem lentT_any(a:Option Addr)(len cap:Nat)(l:List ByteArray)(w:World)(hp:ListAt w a len (l.map Value.string))(hr:len*16≤140737488351232):
    Calls Tryz.prog 97 #[.slice a len cap] w fun e w'=>∃ao cap',e= .returned (.slice ao len cap')∧OwnV 9 w' w.heap.size ao (len+16) cap' (l.map Value.string++markL mkTV 90 16)∧Below w.heap.size w w':=by
 go_enter Tryz.func97,Tryz.ntmps97;go_wp2_with fail;refine(fullT_any a len cap l _ hp hr).mono ?_;rintro e w1 ⟨ao,cap',rfl,hown,hb⟩;have hc:=hown.capLe;have hm:=hown.capMax;have HO:=hd' hown;have HB:=hd' hb
 have hl2:len≤cap':=by omega
 clear hown hb hp
 go_wp2
 go_ret;exact⟨ao,cap',rfl,HO.out,HB.out⟩
theorem OwnV.aheadT{w:World}{base:Nat}{ao:Option Addr}{n cap len:Nat}{l:List ByteArray}{vs:List Value}(h:OwnV 9 w base ao n cap (l.map Value.string++vs))(hl:len=l.length):ListAt w ao len (l.map Value.string):=
 ⟨by simpa using hl,fun i v hv=>by
  obtain⟨g,e,_,hlt,hc⟩:=h.cell (i:=i) (v:=v) (by rw[List.getElem?_append_left (List.getElem?_eq_some_iff.1 hv).1];exact hv)
  exact⟨g,0,e,hlt,by rw[Nat.zero_add];exact hc⟩⟩
set_option maxHeartbeats 1600000 in
theorem keptfullT_any(ao:Option Addr)(cap':Nat)(a:Option Addr)(len cap base:Nat)(l:List ByteArray)(w:World)(ho:OwnV 9 w base ao (len+16) cap' (l.map Value.string++markL mkTV 90 16))(hp:ListAt w a len (l.map Value.string))(hr:len*16≤140737488351232):
    Calls Tryz.prog 134 #[.slice ao (len+16) cap',.slice a len cap] w fun e w'=>e= .returned (.bool true)∧Below w.heap.size w w':=by
 have HP:=hd' hp;have HLL:Hid (len=l.length):=hd' (by simpa using hp.len);have HO:=hd' ho;clear hp ho;go_enter Tryz.func134,Tryz.ntmps134
 go_wp2
 go_loopw [5] (fun i wr=>∃(k:Nat),k≤len+16∧i= .int .i64 k∧Below w.heap.size w wr)
  (fun i _=>len+16-(intOf i).toNat)
 case atStart=>exact⟨0,Nat.zero_le _,rfl,Below.refl _ _⟩
 case round=>
  obtain⟨k,hk,rfl,hb⟩:=hrel;have HB:=hd' hb;clear hb
  by_cases hlt:k<len+16
  ·have HMK:=markT_any 90 ((k:Int)-(len:Int)) (by omega) (by omega)
   unfold MarkTOut at HMK
   have k0:(0:Int)≤(k:Int):=by omega
   have k1:(k:Int)<(len:Int)+16:=by omega
   by_cases hk2:k<len
   ·have hx:l[k]? =some (l[k]'(by have:=HLL.out;omega)):=List.getElem?_eq_getElem _
    generalize l[k]'(by have:=HLL.out;omega)=x at hx;obtain⟨b,off,rfl,hbl,hc⟩:=HP.out.at_ k (Value.string x) (by rw[List.getElem?_map,hx];rfl);replace hc:=(HB.out.cell (p:=⟨b,off+k,none⟩) hbl).trans hc;obtain⟨g,rfl,hg1,hg2,hd⟩:=HO.out.cell (i:=k) (v:=Value.string x) (by rw[List.getElem?_append_left (by rw[List.length_map];have:=HLL.out;omega),List.getElem?_map,hx];rfl);replace hd:=(HB.out.cell (p:=⟨g,k,none⟩) hg2).trans hd
    skip
    clear hx;go_wp2_with fail;refine(HMK _).mono ?_;rintro e w3 ⟨rfl,hb3⟩;replace hc:=(hb3.cell (p:=⟨b,off+k,none⟩) (Nat.lt_of_lt_of_le hbl HB.out.size)).trans hc;replace hd:=(hb3.cell (p:=⟨g,k,none⟩) (Nat.lt_of_lt_of_le hg2 HB.out.size)).trans hd;have HB3:=hd' (HB.out.trans (hb3.mono HB.out.size));clear hb3;go_wp2_with fail
    first
     | (go_quiet (fail)
        go_wp2_with fail)
     | skip
    go_roundw
    case rel=>exact⟨k+1,by omega,by go_num,by first | exact HB3.out | exact belowN HB3.out _⟩
    case measure=>simp[intOf];omega
   ·obtain⟨g,rfl,hg1,hg2,hd⟩:=HO.out.cell (i:=k) (v:=mkTV 90 (k-len)) (by rw[List.getElem?_append_right (by rw[List.length_map];have:=HLL.out;omega),List.length_map,←HLL.out,markL_get _ _ _ _ (by omega)])
    replace hd:=(HB.out.cell (p:=⟨g,k,none⟩) hg2).trans hd;unfold mkTV at hd;rw[show((k-len:Nat):Int)=(k:Int)-(len:Int) by omega,show((90:Nat):Int)=90 from rfl]at hd;generalize mkT 90 ((k:Int)-(len:Int))=z at hd HMK
    skip
    go_wp2_with fail;refine(HMK _).mono ?_;rintro e w3 ⟨rfl,hb3⟩;replace hd:=(hb3.cell (p:=⟨g,k,none⟩) (Nat.lt_of_lt_of_le hg2 HB.out.size)).trans hd;have HB3:=hd' (HB.out.trans (hb3.mono HB.out.size));clear hb3;go_wp2_with fail
    first
     | (go_quiet (fail)
        go_wp2_with fail)
     | skip
    go_roundw
    case rel=>exact⟨k+1,by omega,by go_num,by first | exact HB3.out | exact belowN HB3.out _⟩
    case measure=>simp[intOf];omega
  ·go_wp2
   go_ret;exact⟨rfl,HB.out⟩
set_option maxHeartbeats 1600000 in
theorem keptT_any(ao:Option Addr)(cap':Nat)(a:Option Addr)(len cap base:Nat)(l:List ByteArray)(w:World)(ho:OwnV 9 w base ao (len+16) cap' (l.map Value.string++markL mkTV 90 16))(hp:ListAt w a len (l.map Value.string))(hr:len*16≤140737488351232):
    Calls Tryz.prog 104 #[.slice ao len cap',.slice a len cap] w (fun e w'=>e= .returned (.bool true)∧Below w.heap.size w w'):=by
 have hc:=ho.capLe;have hm:=ho.capMax;have HP:=hd' hp;have HO:=hd' ho;clear hp ho;go_enter Tryz.func104,Tryz.ntmps104;go_wp2_with fail;refine(keptfullT_any _ _ _ _ _ base l _ HO.out HP.out hr).mono ?_;rintro e w3 ⟨rfl,hb3⟩;have HB:=hd' hb3;clear hb3
 go_wp2
 go_ret;exact⟨rfl,HB.out⟩
end One
end Code
end Go.Proofs.YtljhklblbafjkaaGreatDoor
namespace Go.Proofs.YtljhklblbafjkaaGreatDoor
open Go.RowKit
namespace Code
def ToAt(w:World)(tv:Value)(dest:List ByteArray):Prop:=
 ∃a k c,tv= .slice a k c∧ListAt w a k (dest.map Value.string)∧k≤9223372036854775807∧∀b o,a=some ⟨b,o,none⟩→∃C,w.heap[b]? =some (.cells C 9 (0,0))
theorem ToAt.keep{w w':World}{tv:Value}{dest:List ByteArray}(h:ToAt w tv dest)(he:∀(b:Nat) (C:Array Value),w.heap[b]? =some (.cells C 9 (0,0))→w'.heap[b]? =w.heap[b]?):ToAt w' tv dest:=by
 obtain⟨a,k,c,rfl,hl,hk,hb⟩:=h;refine⟨a,k,c,rfl,⟨hl.len,fun i v hv=> ?_⟩,hk,fun b o e=> ?_⟩
 ·obtain⟨b,o,e,hlt,hc⟩:=hl.at_ i v hv
  obtain⟨C,hC⟩:=hb b o e;have hq:=he b C hC;refine⟨b,o,e,lt_of_block (hq.trans hC), ?_⟩;rw[←hc];exact World.cell?_of_block (a:=⟨b,o+i,none⟩) hq
 ·obtain⟨C,hC⟩:=hb b o e
  exact⟨C,(he b C hC).trans hC⟩
theorem ToAt.below{N:Nat}{w w':World}{tv:Value}{dest:List ByteArray}(h:ToAt w tv dest)(hb:Below N w w')(hN:w.heap.size≤N):ToAt w' tv dest:=
 h.keep fun b _ hC=>hb.block b (Nat.lt_of_lt_of_le (lt_of_block hC) hN)
structure OwnSg(w:World)(base:Nat)(ao:Option Addr)(n cap:Nat)(L:List (B.Sig×Value)):Prop where
 len:n=L.length
 own:∃xs,w.ownsRow base 71 19 (.slice ao n cap) n xs∧∀i p,L[i]? =some p→∀j,j<19→xs[i*19+j]? =(sigC p.1 p.2)[j]?
 to_:∀p∈L,ToAt w p.2 p.1.dest
theorem OwnSg.nil(w:World)(base:Nat):OwnSg w base none 0 0 []:=⟨rfl,⟨[],World.ownsRow_nil _ _ _ _,fun i p h=>by simp at h⟩,fun p h=>by cases h⟩
theorem OwnSg.form{w:World}{base n cap:Nat}{ao:Option Addr}{L:List (B.Sig×Value)}(h:OwnSg w base ao n cap L):(ao=none∧n=0∧cap=0)∨∃g,ao=some ⟨g,0,none⟩∧base≤g∧g<w.heap.size∧∃C,w.heap[g]? =some (.cells C 71 (0,0)):=by
 obtain⟨xs,h1,_⟩:=h.own;rcases h1.2 with⟨h0,h2⟩ | ⟨g,c,cur,e,hb,hh,h3⟩
 ·injection h0 with e1 e2 e3
  exact .inl ⟨e1,h2,e3⟩
 ·have hh2:=lt_of_block hh
  injection e with e _ _;exact .inr ⟨g,e,hb,hh2,cur,hh⟩
theorem OwnSg.cell{w:World}{base n cap g:Nat}{L:List (B.Sig×Value)}(h:OwnSg w base (some ⟨g,0,none⟩) n cap L){i j:Nat}{p:B.Sig×Value}(hp:L[i]? =some p)(hj:j<19):w.cell? ⟨g,i*19+j,none⟩=(sigC p.1 p.2)[j]? :=by
 obtain⟨xs,h1,h2⟩:=h.own;have hi:=(List.getElem?_eq_some_iff.1 hp).1;have hl:=h.len;rw[h1.cellAt (i*19+j) (by omega),h2 i p hp j hj]
theorem OwnSg.free{w:World}{base n cap g:Nat}{L:List (B.Sig×Value)}(h:OwnSg w base (some ⟨g,0,none⟩) n cap L)(j:Nat):w.frozen? ⟨g,j,none⟩=false:=by
 rcases h.form with⟨e,_⟩ | ⟨g',e,_,_,C,hC⟩
 ·cases e
 ·injection e with e
  injection e with e _ _;subst e;simp[World.frozen?,hC]
theorem OwnSg.sigsAt{w:World}{base n cap:Nat}{ao:Option Addr}{L:List (B.Sig×Value)}(h:OwnSg w base ao n cap L):SigsAt w ao n (L.map (·.1)):=by
 refine⟨by rw[List.length_map];exact h.len,fun i s hs=> ?_⟩;rw[List.getElem?_map]at hs;obtain⟨p,hp,rfl⟩:=Option.map_eq_some_iff.1 hs;have hi:=(List.getElem?_eq_some_iff.1 hp).1;have hl:=h.len;rcases h.form with⟨_,h0,_⟩ | ⟨g,rfl,hb,hlt,_⟩
 ·omega
 ·obtain⟨a,k,c,htv,hto,hk,_⟩:=h.to_ p (List.mem_of_getElem? hp)
  refine⟨g,0,rfl,hlt,a,k,c,fun j v hv=> ?_,hto,hk⟩;rw[←htv,Array.getElem?_toList]at hv
  have hj:j<19:=by have:=(Array.getElem?_eq_some_iff.1 hv).1;simpa[sigC]using this
  rw[Nat.zero_add,h.cell hp hj];exact hv
theorem OwnSg.keep{w w':World}{base n cap:Nat}{ao:Option Addr}{L:List (B.Sig×Value)}(h:OwnSg w base ao n cap L)(he:∀g,ao=some ⟨g,0,none⟩→w'.heap[g]? =w.heap[g]?)(ht:∀(b:Nat) (C:Array Value),w.heap[b]? =some (.cells C 9 (0,0))→w'.heap[b]? =w.heap[b]?):OwnSg w' base ao n cap L:=by
 refine⟨h.len, ?_,fun p hp=>(h.to_ p hp).keep ht⟩;obtain⟨xs,h1,h2⟩:=h.own;refine⟨xs,⟨h1.1, ?_⟩,h2⟩;rcases h1.2 with h3 | ⟨g',c,cur,e,hb,hh,h3⟩
 ·exact .inl h3
 ·refine .inr ⟨g',c,cur,e,hb, ?_,h3⟩
  injection e with e _ _;exact(he g' e).trans hh
theorem OwnSg.kept{w w':World}{base n cap:Nat}{ao:Option Addr}{L:List (B.Sig×Value)}(h:OwnSg w base ao n cap L)(hb:Below w.heap.size w w'):OwnSg w' base ao n cap L:=by
 refine h.keep (fun g e=> ?_) (fun b C hC=>hb.block b (lt_of_block hC));rcases h.form with⟨e0,_⟩ | ⟨g',e1,_,hlt,_⟩
 ·rw[e0]at e;cases e
 ·rw[e1]at e
  injection e with e;injection e with e _ _;subst e;exact hb.block _ hlt
theorem OwnSg.weaken{w:World}{base base' n cap:Nat}{ao:Option Addr}{L:List (B.Sig×Value)}(h:OwnSg w base ao n cap L)(hb:base'≤base):OwnSg w base' ao n cap L:=by
 refine⟨h.len, ?_,h.to_⟩;obtain⟨xs,h1,h2⟩:=h.own;refine⟨xs,⟨h1.1, ?_⟩,h2⟩;rcases h1.2 with h3 | ⟨g',c,cur,e,hbb,h3⟩
 ·exact .inl h3
 ·exact .inr ⟨g',c,cur,e,Nat.le_trans hb hbb,h3⟩
theorem OwnSg.puts{w:World}{base n cap g:Nat}{L:List (B.Sig×Value)}(h:OwnSg w base (some ⟨g,0,none⟩) n cap L){i f:Nat}{p:B.Sig×Value}(hp:L[i]? =some p)(vs:List Value)(s:B.Sig)(tv:Value)(hf:f+vs.length≤19)
    (hs:∀j,j<19→(sigC s tv)[j]? =if f≤j∧j<f+vs.length then vs[j-f]? else(sigC p.1 p.2)[j]?) (hto:ToAt w tv s.dest):OwnSg (w.setCells g (i*19+f) vs) base (some ⟨g,0,none⟩) n cap (L.set i (s,tv)):=by
 have hi:=(List.getElem?_eq_some_iff.1 hp).1;have hl:=h.len;have hgr:=grownBy_setCells g vs (i*19+f) w
 have hkeep:∀(b:Nat) (C:Array Value),w.heap[b]? =some (.cells C 9 (0,0))→(w.setCells g (i*19+f) vs).heap[b]? =w.heap[b]? :=fun b C hC=>by
  refine hgr.block b (lt_of_block hC) (fun e=> ?_);obtain rfl:=Option.some.inj e;rcases h.form with⟨e,_⟩ | ⟨g',e,_,_,C',hC'⟩
  ·cases e
  ·injection e with e
   injection e with e _ _;subst e;rw[hC']at hC;injection hC with hC;injection hC with _ hT _;exact absurd hT (by decide)
 refine⟨by rw[List.length_set];exact hl, ?_,fun q hq=> ?_⟩
 ·obtain⟨xs,h1,h2⟩:=h.own
  rcases h1.2 with⟨e,_⟩ | ⟨g',c,cur,e,hb,hh,hnc,hc,hsz,htk⟩
  ·cases e
  ·injection e with e1 _ e3
   injection e1 with e1;injection e1 with e1 _ _;subst e1 e3
   obtain⟨cur',hcur,hcs,hget⟩:∃cur',(w.setCells g (i*19+f) vs).heap[g]? =some (.cells cur' 71 (0,0))∧cur'.size=cur.size∧∀j,j<cur.size→cur'[j]? =if i*19+f≤j∧j<i*19+f+vs.length then vs[j-(i*19+f)]? else cur[j]? :=by
    have hca:CellsAt w g 71 cur.size (fun j=>cur.getD j undef):=⟨cur,hh,rfl,fun j hj=>getRC rfl j hj⟩;obtain⟨C,k1,k2,k3⟩:=CellsAt.setCells vs (i*19+f) hca;refine⟨C,k1,k2,fun j hj=> ?_⟩;rw[k3 j hj]
    show some (if i*19+f≤j∧j<i*19+f+vs.length then vs.getD (j-(i*19+f)) undef else cur.getD j undef)=_
    by_cases hin:i*19+f≤j∧j<i*19+f+vs.length
    ·rw[if_pos hin,if_pos hin,List.getD_eq_getElem?_getD,List.getElem?_eq_getElem (by omega)]
     rfl
    ·rw[if_neg hin,if_neg hin]
     exact(getRC rfl j hj).symm
   refine⟨cur'.toList.take (n*19),⟨by simp[hcs];omega,.inr ⟨g,cap,cur',rfl,hb,hcur,hnc,hc,by rw[hcs];exact hsz,rfl⟩⟩,fun k q hq j hj=> ?_⟩
   have hk:k<n:=by have:=(List.getElem?_eq_some_iff.1 hq).1;rw[List.length_set]at this;omega
   have hkj:k*19+j<n*19:=by omega
   rw[List.getElem?_take,if_pos hkj,Array.getElem?_toList,hget _ (by rw[hsz];exact Nat.lt_of_lt_of_le hkj (Nat.mul_le_mul_right _ hnc))]
   have hold:∀q',L[k]? =some q'→cur[k*19+j]? =(sigC q'.1 q'.2)[j]? :=fun q' hq'=>by
    rw[←h2 k q' hq' j hj,←htk,List.getElem?_take,if_pos hkj,Array.getElem?_toList]
   by_cases hki:i=k
   ·subst hki
    rw[List.getElem?_set,if_pos rfl,if_pos hi]at hq;obtain rfl:=Option.some.inj hq;rw[hs j hj]
    by_cases hin:f≤j∧j<f+vs.length
    ·rw[if_pos (by omega),if_pos hin]
     congr 1;omega
    ·rw[if_neg (by omega),if_neg hin,hold p hp]
   ·rw[List.getElem?_set,if_neg hki]at hq
    rw[if_neg (by omega),hold q hq]
 ·rcases List.mem_or_eq_of_mem_set hq with hq | rfl
  ·exact(h.to_ q hq).keep hkeep
  ·exact hto.keep hkeep
theorem OwnSg.put{w:World}{base n cap g:Nat}{L:List (B.Sig×Value)}(h:OwnSg w base (some ⟨g,0,none⟩) n cap L){i f:Nat}{p:B.Sig×Value}(hp:L[i]? =some p)(v:Value)(s:B.Sig)(tv:Value)(hf:f<19)
    (hs:∀j,j<19→(sigC s tv)[j]? =if f=j then some v else(sigC p.1 p.2)[j]?) (hto:ToAt w tv s.dest):OwnSg (w.setCell ⟨g,i*19+f,none⟩ v) base (some ⟨g,0,none⟩) n cap (L.set i (s,tv)):=by
 have:=h.puts (f:=f) hp [v] s tv (by simp;omega) (fun j hj=>by
  rw[hs j hj]
  by_cases e:f=j
  ·subst e
   rw[if_pos rfl,if_pos (by simp)];simp
  ·rw[if_neg e,if_neg (by simp;omega)]) hto
 exact this
theorem OwnSg.snoc{w w1 w':World}{base n cap cap':Nat}{ao ao':Option Addr}{L:List (B.Sig×Value)}(h:OwnSg w base ao n cap L)(hw1:Below w.heap.size w w1)(s:B.Sig)(tv:Value)(hto:ToAt w1 tv s.dest){xs:List Value}(hx:∀i p,L[i]? =some p→∀j,j<19→xs[i*19+j]? =(sigC p.1 p.2)[j]?)(hxl:xs.length=n*19)
    (hown:w'.ownsRow base 71 19 (.slice ao' (n+1) cap') (n+1) (xs++(sigC s tv).toList)) (hg:w1.grownBy w' (Value.ownBlock (.slice ao n cap))):OwnSg w' base ao' (n+1) cap' (L++[(s,tv)]):=by
 have hkeep:∀(b:Nat) (C:Array Value),w1.heap[b]? =some (.cells C 9 (0,0))→w'.heap[b]? =w1.heap[b]? :=fun b C hC=>by
  refine hg.block b (lt_of_block hC) (fun e=> ?_);rcases h.form with⟨e0,_⟩ | ⟨g',e0,_,hlt,C',hC'⟩
  ·rw[e0]at e;cases e
  ·rw[e0]at e
   obtain rfl:g'=b:=Option.some.inj (show some g'=some b from e.symm);rw[hw1.block _ hlt,hC']at hC;injection hC with hC;injection hC with _ hT _;exact absurd hT (by decide)
 refine⟨by simp[h.len],⟨_,hown,fun i p hp j hj=> ?_⟩,fun q hq=> ?_⟩
 ·by_cases hi:i<n
  ·rw[List.getElem?_append_left (by rw[←h.len];exact hi)]at hp
   rw[List.getElem?_append_left (by omega),hx i p hp j hj]
  ·have hlen:=h.len
   have hil:=(List.getElem?_eq_some_iff.1 hp).1;rw[List.length_append,List.length_singleton]at hil
   obtain rfl:i=n:=by omega
   rw[List.getElem?_append_right (by omega)]at hp
   have e:i-L.length=0:=by omega
   rw[e]at hp;obtain rfl:=Option.some.inj hp;rw[List.getElem?_append_right (by omega),hxl,show i*19+j-i*19=j by omega,Array.getElem?_toList]
 ·rcases List.mem_append.1 hq with hq | hq
  ·exact((h.to_ q hq).below hw1 (lR' _)).keep hkeep
  ·obtain rfl:=List.mem_singleton.1 hq
   exact hto.keep hkeep
end Code
end Go.Proofs.YtljhklblbafjkaaGreatDoor
namespace Go.Proofs.YtljhklblbafjkaaGreatDoor
open Go.RowKit
namespace Code
attribute [local go_sem ↓] Go.wp_at_zero Go.wp_at_succ
def ToLent(w:World)(tv:Value)(dest:List ByteArray):Prop:=
 ∃base a c,tv= .slice a dest.length c∧One.OwnV 9 w base a (dest.length+16) c (dest.map Value.string++One.markL One.mkTV 90 16)
theorem ToLent.keep{w w':World}{tv:Value}{dest:List ByteArray}(h:ToLent w tv dest)(he:∀(b:Nat) (C:Array Value),w.heap[b]? =some (.cells C 9 (0,0))→w'.heap[b]? =w.heap[b]?):ToLent w' tv dest:=by
 obtain⟨base,a,c,rfl,ho⟩:=h;refine⟨base,a,c,rfl,ho.keep (fun g e=> ?_)⟩;rcases ho.own.2 with⟨e0,_⟩ | ⟨g',c',cur,e1,hb,hh,_⟩
 ·injection e0 with e0
  rw[e0]at e;cases e
 ·injection e1 with e1 _ _
  rw[e1]at e;injection e with e;injection e with e _ _;subst e;exact he _ _ hh
theorem ToLent.below{N:Nat}{w w':World}{tv:Value}{dest:List ByteArray}(h:ToLent w tv dest)(hb:Below N w w')(hN:w.heap.size≤N):ToLent w' tv dest:=
 h.keep fun b _ hC=>hb.block b (Nat.lt_of_lt_of_le (lt_of_block hC) hN)
theorem ToLent.toAt{w:World}{tv:Value}{dest:List ByteArray}(h:ToLent w tv dest):ToAt w tv dest:=by
 obtain⟨base,a,c,rfl,ho⟩:=h;have h1:=ho.capLe;have h2:=ho.capMax;refine⟨a,_,c,rfl,One.OwnV.aheadT ho rfl,by omega,fun b o e=> ?_⟩;rcases ho.own.2 with⟨e0,_⟩ | ⟨g,c',cur,e1,hb,hh,_⟩
 ·injection e0 with e0
  rw[e0]at e;cases e
 ·injection e1 with e1 _ _
  rw[e1]at e;injection e with e;injection e with e _ _;subst e;exact⟨cur,hh⟩
def SlOut(s:B.Sig)(w:World)(e:Ending)(w':World):Prop:=∃ta tc,e= .returned (.agg (sigC s (.slice ta s.dest.length tc)))∧ToLent w' (.slice ta s.dest.length tc) s.dest∧Below w.heap.size w w'
theorem sigC_to(s:B.Sig)(tv tv':Value):∀j,j<19→(sigC s tv').getD j undef=if j=18 then tv' else(sigC s tv).getD j undef:=by
 intro j hj
 match j,hj with
 | 0,_=>rfl
 | 1,_=>rfl
 | 2,_=>rfl
 | 3,_=>rfl
 | 4,_=>rfl
 | 5,_=>rfl
 | 6,_=>rfl
 | 7,_=>rfl
 | 8,_=>rfl
 | 9,_=>rfl
 | 10,_=>rfl
 | 11,_=>rfl
 | 12,_=>rfl
 | 13,_=>rfl
 | 14,_=>rfl
 | 15,_=>rfl
 | 16,_=>rfl
 | 17,_=>rfl
 | 18,_=>rfl
 | n+19,h=>omega
theorem RC.putL{w:World}{b n:Nat}{T:TypeId}{C D:Array Value}(h:RC w b T n C)(k:Nat)(v:Value)(hD:D.size=n)(hd:∀j,j<n→D.getD j undef=if j=k then v else C.getD j undef):RC (w.setCell ⟨b,k,none⟩ v) b T n D:=
 ⟨CellsAt.congr (CellsAt.set h.1 k v) (fun j hj=>(hd j hj).symm),hD⟩
set_option maxRecDepth 100000 in
set_option maxHeartbeats 6400000 in
theorem lentSignal_any(s:B.Sig)(a:Option Addr)(cap:Nat)(w:World)(hl:ListAt w a s.dest.length (s.dest.map Value.string))(hn:s.dest.length*16≤140737488351232):
    Calls Tryz.prog 68 #[.agg (sigC s (.slice a s.dest.length cap))] w (SlOut s w):=by
 have hrow:=RC.new (sigC s (.slice a s.dest.length cap)) 71 w (n:=19) rfl rfl;have hbel:Below w.heap.size w (w.alloc (.cells (sigC s (.slice a s.dest.length cap)) 71)):=(Below.refl _ _).alloc (lR' _) _;obtain⟨w1,hw1⟩:∃w1,w.alloc (.cells (sigC s (.slice a s.dest.length cap)) 71)=w1:=⟨_,rfl⟩;rw[hw1]at hrow hbel;have HL:=hd' (hl.below hbel (lR' _));have HN:=hd' hn;have HROW:=hd' hrow;have HB:=hd' hbel;have HZ:Hid (w.heap.size<w1.heap.size):=hd' hrow.blk;clear hl hn hrow hbel;go_enter Tryz.func68,Tryz.ntmps68
 go_upto_region 1 with fail
 try rw[hw1]
 clear hw1;generalize hw2:World.alloc _ _=w2
 have hb2:Below w1.heap.size w1 w2:=by rw[←hw2];exact(Below.refl _ _).alloc (lR' _) _
 have ht2:w2.there w1.heap.size 0 19:=by rw[←hw2];exact there_alloc _ _ _ (by rfl)
 have hm2:∃C,w2.heap[w1.heap.size]? =some (.cells C 71 (0,0)):=⟨_,by rw[←hw2];exact heap_alloc_new _ _⟩
 have hz2:w1.heap.size<w2.heap.size:=by rw[←hw2];simp
 obtain⟨R,hR⟩:∃R,w1.heap.size=R:=⟨_,rfl⟩;rw[hR]at ht2 hm2 hz2⊢;have hrr2:=RC.range (HROW.out.below hb2 HROW.out.blk);have HB2:=hd' hb2;have HRE:=hd' hR;have HT2:=hd' ht2;have HM2:=hd' hm2;clear hw2 hb2 ht2 hm2 hR
 go_upto_region 2 with(first
  | refine wpList_load_mid (by rfl) 71 _ (by rfl) w.heap.size 0 (by rfl) (sigC s (.slice a s.dest.length cap)).toList _ hrr2 Tryz.underlying71 (by rfl) (by rw[infoN71];rfl) ?_
  | (refine wpList_store_mid (by rfl) 71 _ _ (by rfl) w2.heap.size 0 (sigC s (.slice a s.dest.length cap)) (by rfl) (by rfl) (there_alloc _ _ _ (by rfl)) (by rw[infoN71];rfl) (ones_sig _ _ _ _) ?_;generalize hw3:World.setCells _ _ _ _=w3))
 have hb3:Below w2.heap.size w2 w3:=by
  rw[←hw3];exact((Below.refl _ _).alloc (lR' _) _).grown (grownBy_setCells _ _ _ _) (by simp) (fun k hk=>by cases hk;exact lR' _)
 have hrow3:RC w3 w2.heap.size 71 19 (sigC s (.slice a s.dest.length cap)):=by rw[←hw3];exact RC.over _ _ _ _ (by rfl) rfl
 obtain⟨Y,hY⟩:∃Y,w2.heap.size=Y:=⟨_,rfl⟩;have hb13:Below w1.heap.size w1 w3:=HB2.out.trans (hb3.mono HB2.out.size)
 have hRY:R<Y:=by rw[←hY];exact hz2
 have k18:w3.cell? ⟨w.heap.size,18,none⟩=some (.slice a s.dest.length cap):=(HROW.out.below hb13 HROW.out.blk).cell (j:=18) rfl;have hcp:=One.lentT_any a s.dest.length cap s.dest w3 (HL.out.below hb13 (lR' _)) HN.out
 have HT3:Hid (w3.there R 0 19):=hd' (fun j hj=>by
  have h:=HT2.out j hj;have hblk:=hb3.block R hz2
  exact⟨by rw[World.cell?_of_block (a:=⟨R,0+j,none⟩) hblk];exact h.1,by rw[World.frozen?_of_block (a:=⟨R,0+j,none⟩) hblk];exact h.2⟩)
 have HM3:Hid (∃C,w3.heap[R]? =some (.cells C 71 (0,0))):=hd' (by obtain⟨C,hC⟩:=HM2.out;exact⟨C,(hb3.block R hz2).trans hC⟩);have HB13:=hd' hb13;have HR3:=hd' (show R<w3.heap.size from Nat.lt_of_lt_of_le hz2 hb3.size);rw[hY]at hrow3⊢;have HROW3:=hd' hrow3;clear hw3 hb3 hrow3 hY hb13 hrr2 HB2 HT2 HM2
 go_upto_region 3 with(go_at_call 97;refine hcp.mono ?_;rintro e w4 ⟨ta,tc,rfl,hto4,hb4⟩;have j18:=(HROW3.out.below hb4 HROW3.out.blk).cell (j:=18) rfl;have f18:=CellsAt.free (HROW3.out.below hb4 HROW3.out.blk).1 18)
 have hrow5:RC (w4.setCell ⟨Y,18,none⟩ (.slice ta s.dest.length tc)) Y 71 19 (sigC s (.slice ta s.dest.length tc)):=(HROW3.out.below hb4 HROW3.out.blk).putL 18 _ rfl (sigC_to s _ _);obtain⟨w5,hw5⟩:∃w5,w4.setCell ⟨Y,18,none⟩ (.slice ta s.dest.length tc)=w5:=⟨_,rfl⟩
 have hb45:w4.grownBy w5 (some Y):=by rw[←hw5];exact grownBy_setCells Y [.slice ta s.dest.length tc] 18 w4
 rw[hw5]at hrow5
 try rw[hw5]
 have hR3:=HR3.out;have hR4:R<w4.heap.size:=Nat.lt_of_lt_of_le hR3 hb4.size
 have hYb:∃C,w4.heap[Y]? =some (.cells C 71 (0,0)):=by
  obtain⟨C,hC,_⟩:=(HROW3.out.below hb4 HROW3.out.blk).1;exact⟨C,hC⟩
 have hto5:ToLent w5 (.slice ta s.dest.length tc) s.dest:=(show ToLent w4 _ _ from⟨_,ta,tc,rfl,hto4⟩).keep (fun b C hC=>hb45.block b (lt_of_block hC) (fun e=>by
  obtain rfl:=Option.some.inj e;obtain⟨C',hC'⟩:=hYb;rw[hC']at hC;injection hC with hC;injection hC with _ hT _
  exact absurd hT (by decide)))
 have hRb5:w5.heap[R]? =w3.heap[R]? :=(hb45.block R hR4 (fun e=>by have:=Option.some.inj e;omega)).trans (hb4.block R hR3)
 have HT5:Hid (w5.there R 0 19):=hd' (fun j hj=>by
  have h:=HT3.out j hj
  exact⟨by rw[World.cell?_of_block (a:=⟨R,0+j,none⟩) hRb5];exact h.1,by rw[World.frozen?_of_block (a:=⟨R,0+j,none⟩) hRb5];exact h.2⟩)
 have HM5:Hid (∃C,w5.heap[R]? =some (.cells C 71 (0,0))):=hd' (by obtain⟨C,hC⟩:=HM3.out;exact⟨C,hRb5.trans hC⟩)
 have hYw:w.heap.size≤Y:=by have:=HZ.out;have:=HRE.out;omega
 have HB5:Hid (Below w.heap.size w w5):=hd' ((HB.out.trans ((HB13.out.mono HB.out.size).trans (hb4.mono (Nat.le_trans HB.out.size HB13.out.size)))).grown hb45 (Nat.le_trans HB.out.size (Nat.le_trans HB13.out.size hb4.size)) (fun k hk=>by cases hk;exact hYw));have HTO5:=hd' hto5;have hrr5:=RC.range hrow5;have HRW:Hid (w.heap.size≤R):=hd' (by have:=HZ.out;have:=HRE.out;omega);clear hw5 hb45 hrow5 hR3 hR4 hYb hto5 hRb5 hYw hto4 hb4 hcp j18 f18 k18
 go_wp2_with (first
  | refine wpList_load_mid (by rfl) 71 _ (by rfl) Y 0 (by rfl) (sigC s (.slice ta s.dest.length tc)).toList _ hrr5 Tryz.underlying71 (by rfl) (by rw[infoN71];rfl) ?_
  | (refine wpList_store_mid (by rfl) 71 _ _ (by rfl) R 0 (sigC s (.slice ta s.dest.length tc)) (by rfl) (by rfl) HT5.out (by rw[infoN71];rfl) (ones_sig _ _ _ _) ?_;generalize hw6:World.setCells _ _ _ _=w6))
 have hgr:=grownBy_setCells R (sigC s (.slice ta s.dest.length tc)).toList 0 w5;have hrg:=World.rangeAt_setCells_same w5 R 0 (sigC s (.slice ta s.dest.length tc)).toList HT5.out;rw[hw6]at hgr hrg
 have hto6:ToLent w6 (.slice ta s.dest.length tc) s.dest:=HTO5.out.keep (fun b C hC=>hgr.block b (lt_of_block hC) (fun e=>by
  obtain rfl:=Option.some.inj e;obtain⟨C',hC'⟩:=HM5.out;rw[hC']at hC;injection hC with hC;injection hC with _ hT _
  exact absurd hT (by decide)))
 have hbel:Below w.heap.size w w6:=HB5.out.grown hgr HB5.out.size (fun k hk=>by cases hk;exact HRW.out);refine bodyPost_ret (v:=.agg (sigC s (.slice ta s.dest.length tc))) ?_ rfl ⟨ta,tc,rfl,hto6,hbel⟩;have hload:=run_loadVar_mid (P:=Tryz.prog) w6 R 0 71 (sigC s (.slice ta s.dest.length tc)).toList _ hrg Tryz.underlying71 rfl (by rw[infoN71];rfl);exact results_cell Tryz.results68 (by rfl) hload
theorem infoSg:(Tryz.prog.info? 71).map (fun i=>(i.zero,i.size,i.bytes))=some (some (.agg #[.int .i64 0,.int .i64 0,.string ⟨#[]⟩,.int .i64 0,.int .u64 0,.int .i64 0,.int .i64 0,.bool false,.bool false,.int .i64 0,.int .i64 0,.int .i64 0,.int .i64 0,.int .i64 0,.int .i64 0,.int .i64 0,.int .i64 0,.string ⟨#[]⟩,.slice none 0 0]),19,176):=by kernel_rfl
theorem sigC_one(s:B.Sig)(a:Option Addr)(n cap:Nat):∀u∈(sigC s (.slice a n cap)).toList,u.oneCell'=true:=by
 have:=ones_sig s a n cap;intro u hu;exact Array.all_eq_true'.1 this u (by simpa using hu)
def markSig:B.Sig:= { line:=0,col:=0,name:=⟨#[]⟩,role:=0,branch:=0,start:= -7,size:=0,moto:=false,signed:=false,scale:=⟨0,0⟩,offset:=⟨0,0⟩,min:=⟨0,0⟩,max:=⟨0,0⟩,unit:=⟨#[]⟩,dest:=[]}
def markSg:B.Sig×Value:=(markSig,.slice none 0 0)
theorem markSg_to(w:World):ToAt w markSg.2 markSg.1.dest:=⟨none,0,0,rfl,⟨rfl,fun i v h=>by simp[markSg,markSig]at h⟩,by omega,fun b o e=>by cases e⟩
theorem OwnSg.capLe{w:World}{base n cap:Nat}{ao:Option Addr}{L:List (B.Sig×Value)}(h:OwnSg w base ao n cap L):n≤cap:=by
 obtain⟨xs,h1,_⟩:=h.own;rcases h1.2 with⟨hv,hn⟩ | ⟨g,cap',cur,hv,hg,hh,hle,_⟩
 ·omega
 ·cases hv;exact hle
theorem OwnSg.capMax{w:World}{base n cap:Nat}{ao:Option Addr}{L:List (B.Sig×Value)}(h:OwnSg w base ao n cap L):cap≤9223372036854775807:=by
 obtain⟨xs,h1,_⟩:=h.own;rcases h1.2 with⟨hv,hn⟩ | ⟨g,cap',cur,hv,hg,hh,hle,hm,_⟩
 ·cases hv;omega
 ·cases hv;exact hm
theorem OwnSg.keepTo{w w1 w':World}{base n cap:Nat}{ao:Option Addr}{L:List (B.Sig×Value)}(h:OwnSg w base ao n cap L)(hw1:Below w.heap.size w w1)(hg:w1.grownBy w' (Value.ownBlock (.slice ao n cap))):∀(b:Nat) (C:Array Value),w1.heap[b]? =some (.cells C 9 (0,0))→w'.heap[b]? =w1.heap[b]? :=fun b C hC=>by
 refine hg.block b (lt_of_block hC) (fun e=> ?_);rcases h.form with⟨e0,_⟩ | ⟨g',e0,_,hlt,C',hC'⟩
 ·rw[e0]at e;cases e
 ·rw[e0]at e
  obtain rfl:g'=b:=Option.some.inj (show some g'=some b from e.symm);rw[hw1.block _ hlt,hC']at hC;injection hC with hC;injection hC with _ hT _;exact absurd hT (by decide)
def SlsOut(l:List B.Sig)(w:World)(e:Ending)(w':World):Prop:=∃ao cap L,e= .returned (.slice ao l.length cap)∧OwnSg w' w.heap.size ao (l.length+16) cap (L++List.replicate 16 markSg)∧L.map (·.1)=l∧(∀p∈L,ToLent w' p.2 p.1.dest)∧Below w.heap.size w w'
set_option maxRecDepth 100000 in
set_option maxHeartbeats 12800000 in
theorem lentSignals_any(sa:Option Addr)(n cap:Nat)(l:List B.Sig)(w:World)(hs:SigsAt w sa n l)(hn:n*176≤140737488351232)(hto:∀s∈l,s.dest.length*16≤140737488351232):
    Calls Tryz.prog 42 #[.slice sa n cap] w (SlsOut l w):=by
 have HS:=hd' hs;have HN:=hd' hs.len;have HTO:=hd' hto;clear hs hto;go_enter Tryz.func42,Tryz.ntmps42;go_wp2_with fail
 go_loopw [3,4] (fun v i wr=>∃(k c:Nat) (ao:Option Addr),k≤n∧i= .int .i64 (k:Int)∧v= .slice ao k c∧Below w.heap.size w wr∧Hid (∃L,OwnSg wr w.heap.size ao k c L∧L.map (·.1)=l.take k∧∀p∈L,ToLent wr p.2 p.1.dest)) (fun _ i _=>n-(intOf i).toNat)
 case atStart=>exact⟨0,0,none,by omega,rfl,rfl,Below.refl _ _,hd' ⟨[],OwnSg.nil _ _,by simp,fun p h=>by cases h⟩⟩
 case round=>
  obtain⟨k,c,ao,hk,rfl,rfl,hbr,HOW⟩:=hrel;have HBR:=hd' hbr;have hz:w.heap.size≤wr.heap.size:=hbr.size;clear hbr
  by_cases hlt:k<n
  ·have hx:l[k]? =some (l[k]'(by have:=HN.out;omega)):=List.getElem?_eq_getElem _
   generalize l[k]'(by have:=HN.out;omega)=s at hx;obtain⟨b1,o1,rfl,hl1,a1,n1,c1,hrow,hto,hn1⟩:=HS.out.at_ k s hx
   obtain rfl:n1=s.dest.length:=by simpa using hto.len
   have hrr:=cells_below hrow HBR.out hl1;have hcp:=lentSignal_any s a1 c1 wr (hto.below HBR.out (lR' _)) (HTO.out s (List.mem_of_getElem? hx))
   have q0:(0:Int)≤(k:Int):=by omega
   have q1:(k:Int)<n:=by omega
   have HX:=hd' hx;clear hx hl1 hrow hto hn1
   go_upto_region 6 with(first
    | refine wpList_load_mid (by rfl) 71 _ (by rfl) b1 (o1+k*19) (by rfl) (sigC s (.slice a1 s.dest.length c1)).toList _ hrr Tryz.underlying71 (by rfl) (by rw[infoN71];rfl) ?_
    | (go_at_call 68;refine hcp.mono ?_;rintro e w2 ⟨ta,tc,rfl,hto2,hb2⟩)
    | (refine wpList_store_mid (by rfl) 71 _ _ (by rfl) w2.heap.size 0 (sigC s (.slice ta s.dest.length tc)) (by rfl) (by rfl) (there_alloc _ _ _ (by rfl)) (by rw[infoN71];rfl) (ones_sig _ _ _ _) ?_;generalize hw3:World.setCells _ _ _ _=w3))
   have hb3:Below w2.heap.size w2 w3:=by
    rw[←hw3];exact((Below.refl _ _).alloc (lR' _) _).grown (grownBy_setCells _ _ _ _) (by simp) (fun k hk=>by cases hk;exact lR' _)
   have hrow3:RC w3 w2.heap.size 71 19 (sigC s (.slice ta s.dest.length tc)):=by rw[←hw3];exact RC.over _ _ _ _ (by rfl) rfl
   obtain⟨Y,hY⟩:∃Y,w2.heap.size=Y:=⟨_,rfl⟩;have hbr3:Below wr.heap.size wr w3:=hb2.trans (hb3.mono hb2.size);have hto3:=hto2.below hb3 (lR' _);rw[hY]at hrow3⊢;have hrr3:=RC.range hrow3;obtain⟨L,hL,hLm,hLt⟩:=HOW.out;have HLT:=hd' (fun p hp=>(hLt p hp).below hbr3 (lR' _));have hL3:=hL.kept hbr3;obtain⟨xs,hxs,hxat⟩:=hL3.own;have hxl:xs.length=k*19:=hxs.1;have HTO3:=hd' hto3;have HBR3:=hd' hbr3;have HL3:=hd' hL3;have HLM:=hd' hLm;have HXS:=hd' hxs;have HXA:=hd' hxat;have HXL:=hd' hxl;have hz3:w.heap.size≤w3.heap.size:=Nat.le_trans hz hbr3.size;clear hw3 hb3 hrow3 hY hbr3 hto3 hL hLm hLt hL3 hxs hxat hxl hto2 hb2 hcp hrr
   go_wp2_with (first
    | refine wpList_load_mid (by rfl) 71 _ (by rfl) Y 0 (by rfl) (#[.int .i64 s.line,.int .i64 s.col,.string s.name,.int .i64 s.role,.int .u64 s.branch,.int .i64 s.start,.int .i64 s.size,.bool s.moto,.bool s.signed,.int .i64 s.scale.num,.int .i64 s.scale.den,.int .i64 s.offset.num,.int .i64 s.offset.den,.int .i64 s.min.num,.int .i64 s.min.den,.int .i64 s.max.num,.int .i64 s.max.den,.string s.unit,.slice ta s.dest.length tc]:Array Value).toList _ hrr3 Tryz.underlying71 (by rfl) (by rw[infoN71];rfl) ?_
    | (at_builtin;refine app_gen Tryz.underlying25 infoSg (by rfl) (by decide) rfl _ _ rfl w.heap.size rfl HXS.out rfl rfl (sigC_one _ _ _ _) (by omega) (by omega) hz3 ?_;intro ao6 c6 w6 hown6 hg6 hb6 hs6))
   go_roundw
   case rel=>
    refine⟨k+1,c6,ao6,by omega,by go_num,rfl,(HBR.out.trans (HBR3.out.mono hz)).trans hb6,hd' ⟨L++[(s,.slice ta s.dest.length tc)], ?_, ?_, ?_⟩⟩
    ·exact HL3.out.snoc ((Below.refl _ _).alloc (lR' _) _) s _ (HTO3.out.toAt.below ((Below.refl _ _).alloc (lR' _) _) (lR' _)) HXA.out HXL.out hown6 hg6
    ·rw[List.map_append,HLM.out,List.take_add_one,HX.out]
     rfl
    ·intro p hp
     have hk:ToLent w3 p.2 p.1.dest:=by
      rcases List.mem_append.1 hp with h | h
      ·exact HLT.out p h
      ·rw[List.mem_singleton.1 h];exact HTO3.out
     exact(hk.below ((Below.refl _ _).alloc (lR' _) _) (lR' _)).keep (HL3.out.keepTo ((Below.refl _ _).alloc (lR' _) _) hg6)
   case measure=>simp[intOf];omega
  ·obtain rfl:n=k:=by omega
   obtain⟨L,hL,hLm,hLt⟩:=HOW.out;have ht:l.take n=l:=List.take_of_length_le (by rw[HN.out];exact lR' _);rw[ht]at hLm;have HL0:=hd' hL;have HLM:=hd' hLm;have HLT:=hd' hLt;clear hL hLm hLt ht HOW;go_wp2_with fail
   go_loopw [3,6] (fun v i w2=>∃(m c:Nat) (ao:Option Addr),m≤16∧i= .int .i64 (m:Int)∧v= .slice ao (n+m) c∧Below w.heap.size w w2∧Hid (OwnSg w2 w.heap.size ao (n+m) c (L++List.replicate m markSg)∧∀p∈L,ToLent w2 p.2 p.1.dest)) (fun _ i _=>16-(intOf i).toNat)
   case atStart=>exact⟨0,c,ao,by omega,rfl,rfl,HBR.out,hd' ⟨by simpa using HL0.out,HLT.out⟩⟩
   case round=>
    obtain⟨m,c2,ao2,hm,rfl,rfl,hb2,HOW2⟩:=hrel;have HB2:=hd' hb2;have hz2:w.heap.size≤wr.heap.size:=hb2.size;clear hb2
    by_cases hlt2:m<16
    ·obtain⟨hL2,hT2⟩:=HOW2.out
     obtain⟨xs,hxs,hxat⟩:=hL2.own;have hxl:xs.length=(n+m)*19:=hxs.1;have HL2:=hd' hL2;have HT2:=hd' hT2;have HXS:=hd' hxs;have HXA:=hd' hxat;have HXL:=hd' hxl;clear hL2 hT2 hxs hxat hxl;go_wp2_with (at_builtin;refine app_gen Tryz.underlying25 infoSg (by rfl) (by decide) rfl _ _ rfl w.heap.size rfl HXS.out rfl rfl (sigC_one markSig none 0 0) (by omega) (by omega) hz2 ?_;intro ao6 c6 w6 hown6 hg6 hb6 hs6);go_roundw
     case rel=>
      refine⟨m+1,c6,ao6,by omega,by go_num,by rw[Nat.add_assoc],HB2.out.trans hb6,hd' ⟨?_, ?_⟩⟩
      ·rw[List.replicate_succ',←List.append_assoc]
       exact HL2.out.snoc ((Below.refl _ _).alloc (lR' _) _) markSig _ (markSg_to _) HXA.out HXL.out hown6 hg6
      ·intro p hp
       exact((HT2.out p hp).below ((Below.refl _ _).alloc (lR' _) _) (lR' _)).keep (HL2.out.keepTo ((Below.refl _ _).alloc (lR' _) _) hg6)
     case measure=>simp[intOf];omega
    ·obtain rfl:m=16:=by omega
     obtain⟨hL2,hT2⟩:=HOW2.out;have hc:=hL2.capLe;have hcm:=hL2.capMax;have HL2:=hd' hL2;have HT2:=hd' hT2
     have hl2:n≤c2:=by omega
     clear hL2 hT2 HOW2;go_wp2_with fail;go_ret;exact⟨ao2,c2,L,by rw[←HN.out];rfl,by rw[←HN.out];exact HL2.out,HLM.out,HT2.out,HB2.out⟩
end Code
end Go.Proofs.YtljhklblbafjkaaGreatDoor
namespace Go.Proofs.YtljhklblbafjkaaGreatDoor
open Go.RowKit
namespace Code
attribute [local go_sem ↓] Go.wp_at_zero Go.wp_at_succ
theorem OwnSg.grownT{w w':World}{base n cap X:Nat}{ao:Option Addr}{L:List (B.Sig×Value)}{C:Array Value}{T:TypeId}(h:OwnSg w base ao n cap L)(hX:w.heap[X]? =some (.cells C T (0,0)))(h1:71≠T)(h2:9≠T)(hg:w.grownBy w' (some X)):OwnSg w' base ao n cap L:=by
 refine h.keep (fun g e=> ?_) (fun b C' hC'=> ?_)
 ·rcases h.form with⟨e0,_⟩ | ⟨g',e1,_,hlt,C',hC'⟩
  ·rw[e0]at e;cases e
  ·rw[e1]at e
   injection e with e;injection e with e _ _;subst e;refine hg.block _ hlt (fun e=> ?_);obtain rfl:=Option.some.inj e;rw[hC']at hX;injection hX with hX;injection hX with _ hT _;exact h1 hT
 ·refine hg.block _ (lt_of_block hC') (fun e=> ?_)
  obtain rfl:=Option.some.inj e;rw[hC']at hX;injection hX with hX;injection hX with _ hT _;exact h2 hT
theorem msgC_to(m:B.Msg)(tv tv':Value):∀j,j<8→(msgC m tv').getD j undef=if j=7 then tv' else(msgC m tv).getD j undef:=by
 intro j hj
 match j,hj with
 | 0,_=>rfl
 | 1,_=>rfl
 | 2,_=>rfl
 | 3,_=>rfl
 | 4,_=>rfl
 | 5,_=>rfl
 | 6,_=>rfl
 | 7,_=>rfl
 | n+8,h=>omega
def MlOut(m:B.Msg)(w:World)(e:Ending)(w':World):Prop:=∃ao cap L,e= .returned (.agg (msgC m (.slice ao m.sigs.length cap)))∧OwnSg w' w.heap.size ao (m.sigs.length+16) cap (L++List.replicate 16 markSg)∧L.map (·.1)=m.sigs∧(∀p∈L,ToLent w' p.2 p.1.dest)∧Below w.heap.size w w'
theorem ToLent.grownT{w w':World}{tv:Value}{d:List ByteArray}{X:Nat}{C:Array Value}{T:TypeId}(h:ToLent w tv d)(hX:w.heap[X]? =some (.cells C T (0,0)))(h2:9≠T)(hg:w.grownBy w' (some X)):ToLent w' tv d:=
 h.keep fun b C' hC'=>by
  refine hg.block _ (lt_of_block hC') (fun e=> ?_);obtain rfl:=Option.some.inj e;rw[hC']at hX;injection hX with hX;injection hX with _ hT _;exact h2 hT
set_option maxRecDepth 100000 in
set_option maxHeartbeats 6400000 in
theorem lentMessage_any(m:B.Msg)(a:Option Addr)(n cap:Nat)(w:World)(hl:SigsAt w a n m.sigs)(hn:n*176≤140737488351232)(hto:∀s∈m.sigs,s.dest.length*16≤140737488351232):
    Calls Tryz.prog 16 #[.agg (msgC m (.slice a n cap))] w (MlOut m w):=by
 have hrow:=RC.new (msgC m (.slice a n cap)) 27 w (n:=8) rfl rfl;have hbel:Below w.heap.size w (w.alloc (.cells (msgC m (.slice a n cap)) 27)):=(Below.refl _ _).alloc (lR' _) _;obtain⟨w1,hw1⟩:∃w1,w.alloc (.cells (msgC m (.slice a n cap)) 27)=w1:=⟨_,rfl⟩;rw[hw1]at hrow hbel;have HL:=hd' (hl.below hbel (lR' _));have HTO:=hd' hto;have HNL:=hd' hl.len;have HROW:=hd' hrow;have HB:=hd' hbel;have HZ:Hid (w.heap.size<w1.heap.size):=hd' hrow.blk;clear hl hto hrow hbel;go_enter Tryz.func16,Tryz.ntmps16
 go_upto_region 1 with fail
 try rw[hw1]
 clear hw1;generalize hw2:World.alloc _ _=w2
 have hb2:Below w1.heap.size w1 w2:=by rw[←hw2];exact(Below.refl _ _).alloc (lR' _) _
 have ht2:w2.there w1.heap.size 0 8:=by rw[←hw2];exact there_alloc _ _ _ (by rfl)
 have hm2:∃C,w2.heap[w1.heap.size]? =some (.cells C 27 (0,0)):=⟨_,by rw[←hw2];exact heap_alloc_new _ _⟩
 have hz2:w1.heap.size<w2.heap.size:=by rw[←hw2];simp
 obtain⟨R,hR⟩:∃R,w1.heap.size=R:=⟨_,rfl⟩;rw[hR]at ht2 hm2 hz2⊢;have hrr2:=RC.range (HROW.out.below hb2 HROW.out.blk);have HB2:=hd' hb2;have HRE:=hd' hR;have HT2:=hd' ht2;have HM2:=hd' hm2;clear hw2 hb2 ht2 hm2 hR
 go_upto_region 2 with(first
  | refine wpList_load_mid (by rfl) 27 _ (by rfl) w.heap.size 0 (by rfl) (msgC m (.slice a n cap)).toList _ hrr2 Tryz.underlying27 (by rfl) (by kernel_rfl) ?_
  | (refine wpList_store_mid (by rfl) 27 _ _ (by rfl) w2.heap.size 0 (msgC m (.slice a n cap)) (by rfl) (by rfl) (there_alloc _ _ _ (by rfl)) (by kernel_rfl) (by simp[msgC,Value.oneCell']) ?_;generalize hw3:World.setCells _ _ _ _=w3))
 have hb3:Below w2.heap.size w2 w3:=by
  rw[←hw3];exact((Below.refl _ _).alloc (lR' _) _).grown (grownBy_setCells _ _ _ _) (by simp) (fun k hk=>by cases hk;exact lR' _)
 have hrow3:RC w3 w2.heap.size 27 8 (msgC m (.slice a n cap)):=by rw[←hw3];exact RC.over _ _ _ _ (by rfl) rfl
 obtain⟨Y,hY⟩:∃Y,w2.heap.size=Y:=⟨_,rfl⟩;have hb13:Below w1.heap.size w1 w3:=HB2.out.trans (hb3.mono HB2.out.size)
 have hRY:R<Y:=by rw[←hY];exact hz2
 have k7:w3.cell? ⟨w.heap.size,7,none⟩=some (.slice a n cap):=(HROW.out.below hb13 HROW.out.blk).cell (j:=7) rfl;have hcp:=lentSignals_any a n cap m.sigs w3 (HL.out.below hb13 (lR' _)) hn HTO.out
 have HT3:Hid (w3.there R 0 8):=hd' (fun j hj=>by
  have h:=HT2.out j hj;have hblk:=hb3.block R hz2
  exact⟨by rw[World.cell?_of_block (a:=⟨R,0+j,none⟩) hblk];exact h.1,by rw[World.frozen?_of_block (a:=⟨R,0+j,none⟩) hblk];exact h.2⟩)
 have HM3:Hid (∃C,w3.heap[R]? =some (.cells C 27 (0,0))):=hd' (by obtain⟨C,hC⟩:=HM2.out;exact⟨C,(hb3.block R hz2).trans hC⟩);have HB13:=hd' hb13;have HR3:=hd' (show R<w3.heap.size from Nat.lt_of_lt_of_le hz2 hb3.size);rw[hY]at hrow3⊢;have HROW3:=hd' hrow3;clear hw3 hb3 hrow3 hY hb13 hrr2 HB2 HT2 HM2
 go_upto_region 3 with(go_at_call 42;refine hcp.mono ?_;rintro e w4 ⟨ta,tc,L,rfl,hto4,hLm,hlt4,hb4⟩;have j7:=(HROW3.out.below hb4 HROW3.out.blk).cell (j:=7) rfl;have f7:=CellsAt.free (HROW3.out.below hb4 HROW3.out.blk).1 7)
 have hrow5:RC (w4.setCell ⟨Y,7,none⟩ (.slice ta m.sigs.length tc)) Y 27 8 (msgC m (.slice ta m.sigs.length tc)):=(HROW3.out.below hb4 HROW3.out.blk).putL 7 _ rfl (msgC_to m _ _);obtain⟨w5,hw5⟩:∃w5,w4.setCell ⟨Y,7,none⟩ (.slice ta m.sigs.length tc)=w5:=⟨_,rfl⟩
 have hb45:w4.grownBy w5 (some Y):=by rw[←hw5];exact grownBy_setCells Y [.slice ta m.sigs.length tc] 7 w4
 rw[hw5]at hrow5
 try rw[hw5]
 have hR3:=HR3.out;have hR4:R<w4.heap.size:=Nat.lt_of_lt_of_le hR3 hb4.size
 have hYb:∃C,w4.heap[Y]? =some (.cells C 27 (0,0)):=by
  obtain⟨C,hC,_⟩:=(HROW3.out.below hb4 HROW3.out.blk).1;exact⟨C,hC⟩
 have hto5:OwnSg w5 w3.heap.size ta (m.sigs.length+16) tc (L++List.replicate 16 markSg):=by
  obtain⟨C',hC'⟩:=hYb;exact hto4.grownT hC' (by decide) (by decide) hb45
 have HLT5:Hid (∀p∈L,ToLent w5 p.2 p.1.dest):=hd' (fun p hp=>by
  obtain⟨C',hC'⟩:=hYb
  exact(hlt4 p hp).grownT hC' (by decide) hb45)
 clear hlt4;have hRb5:w5.heap[R]? =w3.heap[R]? :=(hb45.block R hR4 (fun e=>by have:=Option.some.inj e;omega)).trans (hb4.block R hR3)
 have HT5:Hid (w5.there R 0 8):=hd' (fun j hj=>by
  have h:=HT3.out j hj
  exact⟨by rw[World.cell?_of_block (a:=⟨R,0+j,none⟩) hRb5];exact h.1,by rw[World.frozen?_of_block (a:=⟨R,0+j,none⟩) hRb5];exact h.2⟩)
 have HM5:Hid (∃C,w5.heap[R]? =some (.cells C 27 (0,0))):=hd' (by obtain⟨C,hC⟩:=HM3.out;exact⟨C,hRb5.trans hC⟩)
 have hYw:w.heap.size≤Y:=by have:=HZ.out;have:=HRE.out;omega
 have HB5:Hid (Below w.heap.size w w5):=hd' ((HB.out.trans ((HB13.out.mono HB.out.size).trans (hb4.mono (Nat.le_trans HB.out.size HB13.out.size)))).grown hb45 (Nat.le_trans HB.out.size (Nat.le_trans HB13.out.size hb4.size)) (fun k hk=>by cases hk;exact hYw));have HTO5:=hd' hto5;have HLM:=hd' hLm;have HW3:Hid (w.heap.size≤w3.heap.size):=hd' (Nat.le_trans HB.out.size HB13.out.size);have hrr5:=RC.range hrow5;have HRW:Hid (w.heap.size≤R):=hd' (by have:=HZ.out;have:=HRE.out;omega);clear hw5 hb45 hrow5 hR3 hR4 hYb hto5 hRb5 hYw hto4 hb4 hcp j7 f7 k7 hLm
 go_wp2_with (first
  | refine wpList_load_mid (by rfl) 27 _ (by rfl) Y 0 (by rfl) (msgC m (.slice ta m.sigs.length tc)).toList _ hrr5 Tryz.underlying27 (by rfl) (by kernel_rfl) ?_
  | (refine wpList_store_mid (by rfl) 27 _ _ (by rfl) R 0 (msgC m (.slice ta m.sigs.length tc)) (by rfl) (by rfl) HT5.out (by kernel_rfl) (by simp[msgC,Value.oneCell']) ?_;generalize hw6:World.setCells _ _ _ _=w6))
 have hgr:=grownBy_setCells R (msgC m (.slice ta m.sigs.length tc)).toList 0 w5;have hrg:=World.rangeAt_setCells_same w5 R 0 (msgC m (.slice ta m.sigs.length tc)).toList HT5.out;rw[hw6]at hgr hrg
 have hto6:OwnSg w6 w3.heap.size ta (m.sigs.length+16) tc (L++List.replicate 16 markSg):=by
  obtain⟨C',hC'⟩:=HM5.out;exact HTO5.out.grownT hC' (by decide) (by decide) hgr
 have hlt6:∀p∈L,ToLent w6 p.2 p.1.dest:=fun p hp=>by
  obtain⟨C',hC'⟩:=HM5.out;exact(HLT5.out p hp).grownT hC' (by decide) hgr
 have hbel:Below w.heap.size w w6:=HB5.out.grown hgr HB5.out.size (fun k hk=>by cases hk;exact HRW.out);refine bodyPost_ret (v:=.agg (msgC m (.slice ta m.sigs.length tc))) ?_ rfl ⟨ta,tc,L,rfl,hto6.weaken HW3.out,HLM.out,hlt6,hbel⟩;have hload:=run_loadVar_mid (P:=Tryz.prog) w6 R 0 27 (msgC m (.slice ta m.sigs.length tc)).toList _ hrg Tryz.underlying27 rfl (by kernel_rfl);exact results_cell Tryz.results16 (by rfl) hload
end Code
end Go.Proofs.YtljhklblbafjkaaGreatDoor
