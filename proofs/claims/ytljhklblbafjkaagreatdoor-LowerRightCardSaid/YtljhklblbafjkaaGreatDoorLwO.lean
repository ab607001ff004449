/- Package check: what is wrong with a text. -/
import Derived.Test.YtljhklblbafjkaaGreatDoorLwU
import Derived.Ground.GgwProg
import Derived.Ground.NamesProg
import Derived.Shelf.Unicode.ValidAny
import Derived.Test.YtljhklblbafjkaaGreatDoorLwG
import Derived.Test.YtljhklblbafjkaaGreatDoorLoQ
open Go.Lib renaming hid→hd'
open Nat renaming le_refl→lR'
namespace Go.Proofs
open Go.Shelf
shelf_lay Lays.n196 Nm 196 at Tryz as Tryz.validS
shelf_lay LaysGw.n17 Ggw 17 at Tryz as Tryz.containsF
end Go.Proofs
namespace Go.Proofs.YtljhklblbafjkaaGreatDoor
open Go.RowKit Go.Lib
namespace Code
def UTabs(w:World):Prop:=Lib.Utf8Tabs 2 3 w
theorem control_at(w:World):PredAt Tryz.prog 124 #[] encR B.controlR w:=fun W r _=>by
 unfold FnGives B.controlR
 by_cases h1:r<32<;>by_cases h2:r=127
 all_goals
  have z1:(r:Int)<32↔r<32:=by omega
  have z2:((r:Int)==127)=decide (r=127):=by rw[Bool.eq_iff_iff];simp;omega
  go_enter Tryz.func124,Tryz.ntmps124
  go_wp2
  all_goals first | (exfalso;omega) | (go_ret;exact⟨by simp[h1,h2],0,rfl⟩)
set_option maxHeartbeats 1600000 in
theorem text_any(s:ByteArray)(w:World)(hs:s.size≤9223372036854775807)(hT:UTabs w):Calls Tryz.prog 80 #[.string s] w (NumOut (B.textNo s) w):=by
 have cV:Calls Tryz.prog 122 #[.string s] w _:=Any.utf8_ValidString Tryz.validS s w hs hT
 have cC:=fun(W:World)=>Any.strings_ContainsFunc Tryz.containsF 124 #[] (enters_of Tryz.func124 (by kernel_rfl) rfl) B.controlR s W (control_at W)
 change∀W,Calls Tryz.prog 123 _ _ _ at cC;unfold B.textNo;generalize Lib.validD s.data.toList=v at cV⊢;generalize Lib.idxFunc B.controlR true s=x at cC⊢
 by_cases h1:1024<s.size
 ·have e1:(1024<(s.size:Int))=True:=by simp;omega
  rw[if_pos h1];clear h1 cV cC;go_enter Tryz.func80,Tryz.ntmps80;go_wp2_with fail;go_ret;exact⟨rfl,Below.refl _ _⟩
 ·have e1:(1024<(s.size:Int))=False:=by simp;omega
  rw[if_neg h1];clear h1
  cases v with
  | false=>
   rw[if_neg (by simp)];clear cC;go_enter Tryz.func80,Tryz.ntmps80;go_wp2_with (go_at_call 122;refine cV.mono ?_;rintro e w' ⟨rfl,hb⟩);go_ret;exact⟨rfl,hb⟩
  | true=>
   by_cases hx:0≤x
   ·rw[if_neg (by simp[hx]),decide_eq_true hx]at*
    clear hx;go_enter Tryz.func80,Tryz.ntmps80;go_wp2_with (first | (go_at_call 122;refine cV.mono ?_;rintro e w' ⟨rfl,hb⟩) | (go_at_call 123;refine(cC _).mono ?_;rintro e w'' ⟨rfl,hb2⟩));go_ret;exact⟨rfl,hb.trans (hb2.mono hb.size)⟩
   ·rw[if_pos ⟨rfl,hx⟩,decide_eq_false hx]at*
    clear hx;go_enter Tryz.func80,Tryz.ntmps80;go_wp2_with (first | (go_at_call 122;refine cV.mono ?_;rintro e w' ⟨rfl,hb⟩) | (go_at_call 123;refine(cC _).mono ?_;rintro e w'' ⟨rfl,hb2⟩));go_ret;exact⟨rfl,hb.trans (hb2.mono hb.size)⟩
end Code
end Go.Proofs.YtljhklblbafjkaaGreatDoor
namespace Go.Proofs.YtljhklblbafjkaaGreatDoor
open Go.RowKit
namespace Code
theorem UTabs.below{N:Nat}{w w':World}(h:UTabs w)(hb:Below N w w')(hN:w.heap.size≤N):UTabs w':=by
 obtain⟨h1,h2⟩:=h
 have key:∀ {p:Addr} {v:Value},w.cell? p=some v→w'.cell? p=some v:=fun {p v} hc=>(hb.cell (Nat.lt_of_lt_of_le (World.block_lt_of_cell? w _ hc) hN)).trans hc
 exact⟨fun c hc=>key (h1 c hc),fun i hi=>⟨key (h2 i hi).1,key (h2 i hi).2⟩⟩
theorem RC.below{N:Nat}{w w':World}{b n:Nat}{T:TypeId}{C:Array Value}(h:RC w b T n C)(hb:Below N w w')(hN:b<N):RC w' b T n C:=h.of (hb.block b hN)
set_option maxRecDepth 100000 in
set_option maxHeartbeats 12800000 in
theorem alone_any(s:B.Sig)(a:Option Addr)(n cap:Nat)(size:Int)(hs:SigWf s)(w:World)(hl:ListAt w a n (s.dest.map Value.string))(hn:n≤9223372036854775807)(hT:UTabs w):
    Calls Tryz.prog 51 #[.agg (sigC s (.slice a n cap)),.int .i64 size] w (NumOut (s.aloneNo size) w):=by
 obtain⟨ans,hans⟩:∃ans,s.aloneNo size=ans:=⟨_,rfl⟩;rw[hans];unfold B.Sig.aloneNo at hans;have hlen:=hl.len;rw[List.length_map]at hlen;rw[←hlen]at hans;have HL:=hd' hl;have HT:=hd' hT;have HS:=hd' hs;have hrow:=RC.new (sigC s (.slice a n cap)) 71 w (n:=19) rfl rfl;have hbel:Below w.heap.size w (w.alloc (.cells (sigC s (.slice a n cap)) 71)):=(Below.refl _ _).alloc (lR' _) _;obtain⟨w1,hw1⟩:∃w1,w.alloc (.cells (sigC s (.slice a n cap)) 71)=w1:=⟨_,rfl⟩;rw[hw1]at hrow hbel;have HR:=hd' hrow;have HB:=hd' hbel
 have hz1:w.heap.size<w1.heap.size:=by rw[←hw1];simp
 have HZ:=hd' hz1;have k2:w1.cell? ⟨w.heap.size,2,none⟩=some (.string s.name):=hrow.cell (j:=2) rfl;have hword:=word_any s.name w1 hs.name;clear hl hT hs hrow hbel hz1 hlen;go_enter Tryz.func51,Tryz.ntmps51
 go_upto_region 1 with fail
 try rw[hw1]
 clear hw1
 cases hok:B.wordOk s.name with
 | false=>
  rw[hok]at hword;rw[if_pos hok]at hans;have HE:=hd' hans;clear hans hok;go_wp2_with (go_at_call 77;refine hword.mono ?_;rintro e w2 ⟨rfl,hb2⟩);go_ret;exact⟨by rw[←HE.out];rfl,HB.out.trans (hb2.mono HB.out.size)⟩
 | true=>
  rw[hok]at hword;rw[if_neg (by rw[hok];simp)]at hans;have HA:=hd' hans;clear hans hok
  go_upto_region 3 with(go_at_call 77;refine hword.mono ?_;rintro e w2 ⟨rfl,hb2⟩)
  have hrow2:=HR.out.below hb2 HZ.out;have HB2:Hid (Below w.heap.size w w2):=hd' (HB.out.trans (hb2.mono HB.out.size));have HR2:=hd' hrow2;have hz2:w.heap.size<w2.heap.size:=Nat.lt_of_lt_of_le HZ.out hb2.size;have HZ2:=hd' hz2;have k3:w2.cell? ⟨w.heap.size,3,none⟩=some (.int .i64 s.role):=hrow2.cell (j:=3) rfl;have k4:w2.cell? ⟨w.heap.size,4,none⟩=some (.int .u64 s.branch):=hrow2.cell (j:=4) rfl;have ha:=HA.out;clear hrow2 hb2 HR HB HZ k2 hword hz2 HA
  by_cases h1:s.role<0
  ·have e1:(s.role<0)=True:=by simp[h1]
   rw[if_pos (.inl h1)]at ha;have HE:=hd' ha;clear ha h1;go_wp2_with fail;go_ret;exact⟨by rw[←HE.out];rfl,HB2.out⟩
  ·have e1:(s.role<0)=False:=by simp;omega
   by_cases h2:2<s.role
   ·have e2:(2<s.role)=True:=by simp[h2]
    rw[if_pos (.inr (.inl h2))]at ha;have HE:=hd' ha;clear ha h1 h2;go_wp2_with fail;go_ret;exact⟨by rw[←HE.out];rfl,HB2.out⟩
   ·have e2:(2<s.role)=False:=by simp;omega
    by_cases h3:s.branch=0
    ·have e3:(s.branch !=0)=false:=by simp[h3]
     rw[if_neg (by omega)]at ha;clear h1 h2 h3;have HA:=hd' ha;clear ha;have hwh:=where_any s (.slice a n cap) size HS.out w2;have hrr:=RC.range HR2.out
     go_upto_region 6 with(first
      | refine wpList_load_mid (by rfl) 71 _ (by rfl) w.heap.size 0 (by rfl) (sigC s (.slice a n cap)).toList _ hrr Tryz.underlying71 (by rfl) (by rw[infoN71];rfl) ?_
      | (go_at_call 78;refine hwh.mono ?_;rintro e w3 ⟨f,rfl,hf,hb3⟩;have HF:=hd' hf;clear hf)
      | (refine wpList_store_mid (by rfl) 136 _ _ (by rfl) w3.heap.size 0 (setC f) (by rfl) (by rfl) (by rw[setC_size];exact there_alloc _ _ _ (by rfl)) (by rw[info136];simp[setC_size]) (setC_ones _) ?_;generalize hw4:World.setCells _ _ _ _=w4))
     have hb24:Below w2.heap.size w2 w4:=by
      rw[←hw4];exact(hb3.alloc hb3.size _).grown (grownBy_setCells _ _ _ _) (by have:=hb3.size;simp;omega) (fun k hk=>by cases hk;exact hb3.size)
     have hrow4:=HR2.out.below hb24 HZ2.out;have HB4:Hid (Below w.heap.size w w4):=hd' (HB2.out.trans (hb24.mono HB2.out.size));have HR4:=hd' hrow4;have HZ4:Hid (w.heap.size<w4.heap.size):=hd' (Nat.lt_of_lt_of_le HZ2.out hb24.size);have hrr4:=RC.range hrow4;have ha:=HA.out;clear hw4 hb24 hb3 HF hrow4 hrr hwh k3 k4 e1 e2 e3 HR2 HZ2 HB2 HA;obtain⟨n1,hn1⟩:∃n1,s.whereNo size=n1:=⟨_,rfl⟩;rw[hn1]at ha⊢;clear hn1
     by_cases hz:n1=0
     ·have e5:(n1 !=0)=false:=by simp[hz]
      rw[if_neg (by simp[hz])]at ha;have hrg:=ranged_any s (.slice a n cap) HS.out w4;obtain⟨n2,hn2⟩:∃n2,s.rangedNo=n2:=⟨_,rfl⟩;rw[hn2]at ha hrg;have HA:=hd' ha;clear ha hn2 hz
      go_upto_region 9 with(first
       | refine wpList_load_mid (by rfl) 71 _ (by rfl) w.heap.size 0 (by rfl) (sigC s (.slice a n cap)).toList _ hrr4 Tryz.underlying71 (by rfl) (by rw[infoN71];rfl) ?_
       | (go_at_call 79;refine hrg.mono ?_;rintro e w5 ⟨rfl,hb5⟩))
      have hrow5:=HR4.out.below hb5 HZ4.out;have HB5:Hid (Below w.heap.size w w5):=hd' (HB4.out.trans (hb5.mono HB4.out.size));have HR5:=hd' hrow5;have HZ5:Hid (w.heap.size<w5.heap.size):=hd' (Nat.lt_of_lt_of_le HZ4.out hb5.size);have k17:w5.cell? ⟨w.heap.size,17,none⟩=some (.string s.unit):=hrow5.cell (j:=17) rfl;have ha:=HA.out;clear hrow5 hb5 hrr4 hrg e5 HR4 HZ4 HB4 HA
      by_cases hz:n2=0
      ·have e6:(n2 !=0)=false:=by simp[hz]
       rw[if_neg (by simp[hz])]at ha;have htx:=text_any s.unit w5 HS.out.unit (HT.out.below HB5.out (lR' _));obtain⟨n3,hn3⟩:∃n3,B.textNo s.unit=n3:=⟨_,rfl⟩;rw[hn3]at ha htx;have HA:=hd' ha;clear ha hn3 hz
       go_upto_region 12 with(go_at_call 80;refine htx.mono ?_;rintro e w6 ⟨rfl,hb6⟩)
       have hrow6:=HR5.out.below hb6 HZ5.out;have HB6:Hid (Below w.heap.size w w6):=hd' (HB5.out.trans (hb6.mono HB5.out.size));have k18:w6.cell? ⟨w.heap.size,18,none⟩=some (.slice a n cap):=hrow6.cell (j:=18) rfl;have ha:=HA.out;clear hrow6 hb6 k17 htx e6 HR5 HZ5 HB5 HA
       by_cases hz:n3=0
       ·have e7:(n3 !=0)=false:=by simp[hz]
        rw[if_neg (by simp[hz])]at ha;clear hz
        by_cases hz:n=0
        ·have e8:((n:Int)==0)=true:=by simp[hz]
         rw[if_pos hz]at ha;have HE:=hd' ha;clear ha hz;go_wp2_with fail;go_ret;exact⟨by rw[←HE.out];rfl,HB6.out⟩
        ·have e8:((n:Int)==0)=false:=by simp[hz]
         rw[if_neg hz]at ha;have hli:=list_any a n cap 64 s.dest w6 (HL.out.below HB6.out (lR' _)) hn (by decide) HS.out.dest;rw[ha]at hli;clear ha hz;go_wp2_with (go_at_call 81;refine hli.mono ?_;rintro e w7 ⟨rfl,hb7⟩);go_ret;exact⟨rfl,HB6.out.trans (hb7.mono HB6.out.size)⟩
       ·have e7:(n3 !=0)=true:=by simp[hz]
        rw[if_pos hz]at ha;subst ha;clear hz;go_wp2_with fail;go_ret;exact⟨rfl,HB6.out⟩
      ·have e6:(n2 !=0)=true:=by simp[hz]
       rw[if_pos hz]at ha;subst ha;clear hz;go_wp2_with fail;go_ret;exact⟨rfl,HB5.out⟩
     ·have e5:(n1 !=0)=true:=by simp[hz]
      rw[if_pos hz]at ha;subst ha;clear hz;go_wp2_with fail;go_ret;exact⟨rfl,HB4.out⟩
    ·have e3:(s.branch !=0)=true:=by simp[h3]
     by_cases h4:s.role=2
     ·have e4:(s.role !=2)=false:=by simp[h4]
      rw[if_neg (by omega)]at ha;clear h1 h2 h3 h4;have HA:=hd' ha;clear ha;have hwh:=where_any s (.slice a n cap) size HS.out w2;have hrr:=RC.range HR2.out
      go_upto_region 6 with(first
       | refine wpList_load_mid (by rfl) 71 _ (by rfl) w.heap.size 0 (by rfl) (sigC s (.slice a n cap)).toList _ hrr Tryz.underlying71 (by rfl) (by rw[infoN71];rfl) ?_
       | (go_at_call 78;refine hwh.mono ?_;rintro e w3 ⟨f,rfl,hf,hb3⟩;have HF:=hd' hf;clear hf)
       | (refine wpList_store_mid (by rfl) 136 _ _ (by rfl) w3.heap.size 0 (setC f) (by rfl) (by rfl) (by rw[setC_size];exact there_alloc _ _ _ (by rfl)) (by rw[info136];simp[setC_size]) (setC_ones _) ?_;generalize hw4:World.setCells _ _ _ _=w4))
      have hb24:Below w2.heap.size w2 w4:=by
       rw[←hw4];exact(hb3.alloc hb3.size _).grown (grownBy_setCells _ _ _ _) (by have:=hb3.size;simp;omega) (fun k hk=>by cases hk;exact hb3.size)
      have hrow4:=HR2.out.below hb24 HZ2.out;have HB4:Hid (Below w.heap.size w w4):=hd' (HB2.out.trans (hb24.mono HB2.out.size));have HR4:=hd' hrow4;have HZ4:Hid (w.heap.size<w4.heap.size):=hd' (Nat.lt_of_lt_of_le HZ2.out hb24.size);have hrr4:=RC.range hrow4;have ha:=HA.out;clear hw4 hb24 hb3 HF hrow4 hrr hwh k3 k4 e1 e2 e3 HR2 HZ2 HB2 HA;obtain⟨n1,hn1⟩:∃n1,s.whereNo size=n1:=⟨_,rfl⟩;rw[hn1]at ha⊢;clear hn1
      by_cases hz:n1=0
      ·have e5:(n1 !=0)=false:=by simp[hz]
       rw[if_neg (by simp[hz])]at ha;have hrg:=ranged_any s (.slice a n cap) HS.out w4;obtain⟨n2,hn2⟩:∃n2,s.rangedNo=n2:=⟨_,rfl⟩;rw[hn2]at ha hrg;have HA:=hd' ha;clear ha hn2 hz
       go_upto_region 9 with(first
        | refine wpList_load_mid (by rfl) 71 _ (by rfl) w.heap.size 0 (by rfl) (sigC s (.slice a n cap)).toList _ hrr4 Tryz.underlying71 (by rfl) (by rw[infoN71];rfl) ?_
        | (go_at_call 79;refine hrg.mono ?_;rintro e w5 ⟨rfl,hb5⟩))
       have hrow5:=HR4.out.below hb5 HZ4.out;have HB5:Hid (Below w.heap.size w w5):=hd' (HB4.out.trans (hb5.mono HB4.out.size));have HR5:=hd' hrow5;have HZ5:Hid (w.heap.size<w5.heap.size):=hd' (Nat.lt_of_lt_of_le HZ4.out hb5.size);have k17:w5.cell? ⟨w.heap.size,17,none⟩=some (.string s.unit):=hrow5.cell (j:=17) rfl;have ha:=HA.out;clear hrow5 hb5 hrr4 hrg e5 HR4 HZ4 HB4 HA
       by_cases hz:n2=0
       ·have e6:(n2 !=0)=false:=by simp[hz]
        rw[if_neg (by simp[hz])]at ha;have htx:=text_any s.unit w5 HS.out.unit (HT.out.below HB5.out (lR' _));obtain⟨n3,hn3⟩:∃n3,B.textNo s.unit=n3:=⟨_,rfl⟩;rw[hn3]at ha htx;have HA:=hd' ha;clear ha hn3 hz
        go_upto_region 12 with(go_at_call 80;refine htx.mono ?_;rintro e w6 ⟨rfl,hb6⟩)
        have hrow6:=HR5.out.below hb6 HZ5.out;have HB6:Hid (Below w.heap.size w w6):=hd' (HB5.out.trans (hb6.mono HB5.out.size));have k18:w6.cell? ⟨w.heap.size,18,none⟩=some (.slice a n cap):=hrow6.cell (j:=18) rfl;have ha:=HA.out;clear hrow6 hb6 k17 htx e6 HR5 HZ5 HB5 HA
        by_cases hz:n3=0
        ·have e7:(n3 !=0)=false:=by simp[hz]
         rw[if_neg (by simp[hz])]at ha;clear hz
         by_cases hz:n=0
         ·have e8:((n:Int)==0)=true:=by simp[hz]
          rw[if_pos hz]at ha;have HE:=hd' ha;clear ha hz;go_wp2_with fail;go_ret;exact⟨by rw[←HE.out];rfl,HB6.out⟩
         ·have e8:((n:Int)==0)=false:=by simp[hz]
          rw[if_neg hz]at ha;have hli:=list_any a n cap 64 s.dest w6 (HL.out.below HB6.out (lR' _)) hn (by decide) HS.out.dest;rw[ha]at hli;clear ha hz;go_wp2_with (go_at_call 81;refine hli.mono ?_;rintro e w7 ⟨rfl,hb7⟩);go_ret;exact⟨rfl,HB6.out.trans (hb7.mono HB6.out.size)⟩
        ·have e7:(n3 !=0)=true:=by simp[hz]
         rw[if_pos hz]at ha;subst ha;clear hz;go_wp2_with fail;go_ret;exact⟨rfl,HB6.out⟩
       ·have e6:(n2 !=0)=true:=by simp[hz]
        rw[if_pos hz]at ha;subst ha;clear hz;go_wp2_with fail;go_ret;exact⟨rfl,HB5.out⟩
      ·have e5:(n1 !=0)=true:=by simp[hz]
       rw[if_pos hz]at ha;subst ha;clear hz;go_wp2_with fail;go_ret;exact⟨rfl,HB4.out⟩
     ·have e4:(s.role !=2)=true:=by simp[h4]
      rw[if_pos (.inr (.inr ⟨h3,h4⟩))]at ha;have HE:=hd' ha;clear ha h1 h2 h3 h4;go_wp2_with fail;go_ret;exact⟨by rw[←HE.out];rfl,HB2.out⟩
end Code
end Go.Proofs.YtljhklblbafjkaaGreatDoor
namespace Go.Proofs.YtljhklblbafjkaaGreatDoor
open Go.RowKit
namespace Code
structure SigsAt(w:World)(sa:Option Addr)(n:Nat)(l:List B.Sig):Prop where
 len:n=l.length
 at_:∀(i:Nat) s,l[i]? =some s→∃b off,sa=some ⟨b,off,none⟩∧b<w.heap.size∧∃a k cap,w.rangeAt b (off+i*19) (sigC s (.slice a k cap)).toList∧ListAt w a k (s.dest.map Value.string)∧k≤9223372036854775807
theorem cells_below{N:Nat}{w w':World}{b o:Nat}{cs:List Value}(h:w.rangeAt b o cs)(hb:Below N w w')(hN:b<N):w'.rangeAt b o cs:=fun j v hv=>(hb.cell (p:=⟨b,o+j,none⟩) hN).trans (h j v hv)
theorem SigsAt.below{N:Nat}{w w':World}{sa:Option Addr}{n:Nat}{l:List B.Sig}(h:SigsAt w sa n l)(hb:Below N w w')(hN:w.heap.size≤N):SigsAt w' sa n l:=
 ⟨h.len,fun i s hs=>let⟨b,off,e,hlt,a,k,cap,h1,h2,h3⟩:=h.at_ i s hs;⟨b,off,e,Nat.lt_of_lt_of_le hlt hb.size,a,k,cap,cells_below h1 hb (Nat.lt_of_lt_of_le hlt hN),h2.below hb hN,h3⟩⟩
theorem RC.over(w:World)(C D:Array Value)(T:TypeId){n:Nat}(hC:C.size=n)(hD:D.size=n):RC ((w.alloc (.cells C T)).setCells w.heap.size 0 D.toList) w.heap.size T n D:=by
 have h:RC (w.alloc (.cells C T)) w.heap.size T n C:=RC.new C T w hC rfl;exact RC.store h D hD
theorem ones_sig(s:B.Sig)(a:Option Addr)(n cap:Nat):(sigC s (.slice a n cap)).all (·.oneCell')=true:=by
 simp[sigC,Value.oneCell']
def ErrOut(m:B.Msg)(w:World)(e:Ending)(w':World):Prop:=e= .returned (errL m.no.1 m.no.2.1 m.no.2.2)∧Below w.heap.size w w'
theorem hasW_name(l:List B.Sig)(s:ByteArray):hasW (l.map (·.name)) s=l.any (fun t=>decide (t.name=s)):=by
 unfold hasW;rw[List.any_map];rfl
theorem sigNo_of{m:B.Msg}{k:Nat}{s:B.Sig}(hs:m.sigs[k]? =some s):m.sigNo k=if s.aloneNo m.size≠0 then s.aloneNo m.size else if hasW ((m.sigs.take k).map (·.name)) s.name=true then 12
    else if s.role=1∧0≤B.muxZ (m.sigs.take k)then 14 else 0:=by
 unfold B.Msg.sigNo;rw[hs];simp only[hasW_name,(B.muxZ_sign _).2]
end Code
end Go.Proofs.YtljhklblbafjkaaGreatDoor
