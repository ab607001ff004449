/- Package check: words that must be there once. -/
import Derived.Test.YtljhklblbafjkaaGreatDoorLwU
import Derived.StringKeys
import Derived.Test.YtljhklblbafjkaaGreatDoorErrQ
open Go.Lib renaming hid→hd'
open Nat renaming le_refl→lR'
namespace Go.Proofs.YtljhklblbafjkaaGreatDoor
open Go.RowKit Go.Maps
namespace Code
attribute [local go_sem ↓] Go.wp_at_zero Go.wp_at_succ
theorem keyStr:Keyed Tryz.prog 9:=string_keyed Tryz.underlying9
def hasW(l:List ByteArray)(s:ByteArray):Bool:=l.any (fun t=>decide (t=s))
theorem hasW_snoc(l:List ByteArray)(x s:ByteArray):hasW (l++[x]) s=(hasW l s||decide (x=s)):=by simp[hasW]
def SeenD(D:DataW Unit)(l:List ByteArray):Prop:=∀(s:ByteArray) (z:DataW Unit),D.atKey (.string s.data.toList) z=if hasW l s=true then .lit (.bool true)else z
def SeenAt(w:World)(b n:Nat)(l:List ByteArray):Prop:=
 ∃D,w.ownsMap Tryz.prog 9 (plainElem Tryz.prog 4) b n D∧SeenD D l
theorem SeenAt.lt{w:World}{b n:Nat}{l:List ByteArray}(h:SeenAt w b n l):b<w.heap.size:=by
 obtain⟨D,h,_⟩:=h;exact h.lt
theorem SeenAt.kept{w w':World}{b n:Nat}{l:List ByteArray}{row:Option Nat}(h:SeenAt w b n l)(hg:w.grownBy w' row)(hne:some b≠row):SeenAt w' b n l:=by
 obtain⟨D,h,hd⟩:=h;exact⟨D,h.kept hg hne,hd⟩
theorem SeenAt.below{w w':World}{b n N:Nat}{l:List ByteArray}(h:SeenAt w b n l)(hb:Below N w w')(hN:b<N):SeenAt w' b n l:=by
 obtain⟨D,⟨es,clock,h1,h2⟩,hd⟩:=h;exact⟨D,⟨es,clock,(hb.block b hN).trans h1,h2⟩,hd⟩
theorem SeenAt.new(w:World):SeenAt (w.alloc (.map #[] 0)) w.heap.size 0 []:=
 ⟨.map [],World.ownsMap_made w _ _ _,fun _ _=>rfl⟩
theorem plainElem_bool_inv{P:Program}{e:TypeId}(he:P.underlying e=some .bool){v:Value}{z:DataW Unit×List MemPlace}(h:plainElem P e v=some z):∃x,v= .bool x∧z=(.lit (.bool x),[]):=by
 unfold plainElem at h;rw[he]at h
 cases v<;>cases h
 exact⟨_,rfl,rfl⟩
theorem run_makeMap_hint{P:Program}{t k e:TypeId}(hu:P.underlying t=some (.map k e))(n:Int)(w:World):(Instr.makeMap t (some (.int .i64 n))).run P w= .ok (.map (some w.heap.size)) (w.alloc (.map #[] 0)):=by
 simp[Instr.makeMap,run_underlying hu,asInt,asIntOf,Result.andThen]
theorem str_toList{s t:ByteArray}(h:s.data.toList=t.data.toList):s=t:=by
 cases s;cases t;simp at h;simp[h]
theorem SeenAt.look{w:World}{b n:Nat}{l:List ByteArray}(h:SeenAt w b n l)(s:ByteArray)(hs:s.size≤9223372036854775807):
    (Instr.lookup 98 (.map (some b)) (.string s) false).run Tryz.prog w= .ok (.bool (hasW l s)) w:=by
 obtain⟨D,ho,hd⟩:=h;obtain⟨v,ps,hrun,hv⟩:=ho.lookup (e:=4) keyStr Tryz.underlying98 (z:=.bool false) (by kernel_rfl) (zd:=.lit (.bool false)) (zp:=[]) (plainElem_bool Tryz.underlying4 false) (WideMaps.keyOf_string_mk Tryz.underlying9 hs);obtain⟨x,rfl,hx⟩:=plainElem_bool_inv Tryz.underlying4 hv;rw[hrun];have h1:=congrArg Prod.fst hx;simp only at h1;rw[hd s]at h1
 cases e:hasW l s with
 | true=>rw[e,if_pos rfl]at h1;simp at h1;simp[←h1]
 | false=>rw[e,if_neg (by simp)]at h1;simp at h1;simp[←h1]
theorem SeenAt.put{w:World}{b n:Nat}{l:List ByteArray}(h:SeenAt w b n l)(hn:n<maxLen)(s:ByteArray)(hs:s.size≤9223372036854775807):
    ∃w',(Instr.mapUpdate 98 (.map (some b)) (.string s) (.bool true)).run Tryz.prog w= .ok () w'∧SeenAt w' b (n+1) (l++[s])∧w.grownBy w' (some b):=by
 obtain⟨D,ho,hd⟩:=h;obtain⟨w',hrun,ho',hg⟩:=ho.update (e:=4) keyStr Tryz.underlying98 hn (key:=.string s) (val:=.bool true) (WideMaps.keyOf_string_mk Tryz.underlying9 hs) (plainElem_bool Tryz.underlying4 true);refine⟨w',hrun,⟨_,ho',fun t z=> ?_⟩,hg⟩
 by_cases e:t=s
 ·subst e
  rw[Maps.atKey_put_same ho.isMap (show WideAt.IsKeyLit (.string t.data.toList)from trivial) _ z,hasW_snoc];simp
 ·rw[Maps.atKey_put_other (fun h=>e (str_toList (by injection h))),hd t z,hasW_snoc]
  have:decide (s=t)=false:=by simp;exact fun h=>e h.symm
  rw[this,Bool.or_false]
structure ListIn(l:List ByteArray)(M:Nat)(k:Nat)(w wr:World):Prop where
 seen:SeenAt wr M k (l.take k)
 bel:Below w.heap.size w wr
 at_:w.heap.size≤M
 no:∀i,i<k→B.wordNo l i=0
set_option maxRecDepth 100000 in
set_option maxHeartbeats 3200000 in
theorem list_any(a:Option Addr)(n cap most:Nat)(l:List ByteArray)(w:World)(hl:ListAt w a n (l.map Value.string))(hn:n≤9223372036854775807)(hm:most≤1000)(hs:∀s∈l,s.size≤9223372036854775807):
    Calls Tryz.prog 81 #[.slice a n cap,.int .i64 (most:Int)] w (NumOut (B.listNo l most) w):=by
 have hlen:=hl.len;rw[List.length_map]at hlen;have HL:=hd' hl;have HLE:=hd' hlen;have HS:=hd' hs
 have hans:B.listNo l most=if most<n then 5 else B.firstNo (B.wordNo l) n:=by rw[hlen];rfl
 rw[hans];clear hl hlen hs hans
 by_cases hmn:most<n
 ·have e1:((most:Int)<n)=True:=by simp;omega
  rw[if_pos hmn];clear hmn;go_enter Tryz.func81,Tryz.ntmps81;go_wp2_with fail;go_ret;exact⟨rfl,Below.refl _ _⟩
 ·have e1:((most:Int)<n)=False:=by simp;omega
  rw[if_neg hmn];obtain⟨ans,hans⟩:∃ans,B.firstNo (B.wordNo l) n=ans:=⟨_,rfl⟩;rw[hans];have HA:=hd' hans
  have hn1000:n≤1000:=by omega
  clear hans hmn;have hO:ListIn l w.heap.size 0 w (w.alloc (.map #[] 0)):=⟨by rw[List.take_zero];exact SeenAt.new w,(Below.refl _ _).alloc (lR' _) _,lR' _,fun i h=>absurd h (by omega)⟩;obtain⟨w1,hw1⟩:∃w1,w.alloc (.map #[] 0)=w1:=⟨_,rfl⟩;rw[hw1]at hO;have HO:=hd' hO;have hmk:=run_makeMap_hint Tryz.underlying98 (n:Int) w;rw[hw1]at hmk;clear hO;go_enter Tryz.func81,Tryz.ntmps81
  go_upto_region 4 with fail
  try rw[hw1]
  clear hw1;go_wp2_with fail
  go_loopw [17] (fun i wr=>∃k:Nat,k≤n∧i= .int .i64 k∧ListIn l w.heap.size k w wr) (fun i _=>n-(intOf i).toNat)
  case atStart=>exact⟨0,by omega,rfl,HO.out⟩
  case round=>
   obtain⟨k,hk,rfl,hc⟩:=hrel;have HC:=hd' hc;clear HO hc
   by_cases hlt:k<n
   ·have hx:l[k]? =some (l[k]'(by have:=HLE.out;omega)):=List.getElem?_eq_getElem _
    generalize l[k]'(by have:=HLE.out;omega)=s at hx;obtain⟨b1,o1,rfl,hl1,hc1⟩:=HL.out.at_ k (.string s) (by rw[List.getElem?_map,hx];rfl);replace hc1:=(HC.out.bel.cell (p:=⟨b1,o1+k,none⟩) hl1).trans hc1;have hsz:=HS.out s (List.mem_of_getElem? hx)
    have hno:B.wordNo l k=if B.wordOk s=false then 11 else if hasW (l.take k) s=true then 12 else 0:=by
     unfold B.wordNo;rw[hx];rfl
    have hfirst:B.wordNo l k≠0→ans=B.wordNo l k:=fun h=>by
     rw[←HA.out];unfold B.firstNo;rw[B.firstAt_some HC.out.no hlt h]
    have HX:=hd' hx;have HNO:=hd' hno;have HF:=hd' hfirst;have hword:=word_any s wr hsz;clear hx hno hfirst hl1
    cases hw:B.wordOk s with
    | false=>
     rw[hw]at hword
     have ea:ans=11:=by rw[HF.out (by rw[HNO.out,hw,if_pos rfl];decide),HNO.out,hw];rfl
     have HE:=hd' ea;clear hw ea;go_wp2_with (go_at_call 77;refine hword.mono ?_;rintro e w2 ⟨rfl,hb2⟩);go_ret;exact⟨by rw[HE.out];rfl,HC.out.bel.trans (hb2.mono HC.out.bel.size)⟩
    | true=>
     rw[hw]at hword;have HW:=hd' hw;clear hw
     have hlook:∀w2,Below wr.heap.size wr w2→SeenAt w2 w.heap.size k (l.take k):=fun w2 hb=>HC.out.seen.below hb (by have:=HC.out.seen.lt;exact this)
     have HK:=hd' hlook;clear hlook
     cases hd:hasW (l.take k) s with
     | true=>
      have ea:ans=12:=by rw[HF.out (by rw[HNO.out,HW.out,hd,if_neg (by simp),if_pos rfl];decide),HNO.out,HW.out,hd];rfl
      have HE:=hd' ea;clear ea;go_wp2_with (go_at_call 77;refine hword.mono ?_;rintro e w2 ⟨rfl,hb2⟩;have hlk:=(HK.out w2 hb2).look s hsz;rw[hd]at hlk);go_ret;exact⟨by rw[HE.out];rfl,HC.out.bel.trans (hb2.mono HC.out.bel.size)⟩
     | false=>
      have h0:B.wordNo l k=0:=by rw[HNO.out,HW.out,hd];rfl
      have H0:=hd' h0;clear h0;go_wp2_with (go_at_call 77;refine hword.mono ?_;rintro e w2 ⟨rfl,hb2⟩;have hlk:=(HK.out w2 hb2).look s hsz;rw[hd]at hlk;obtain⟨w3,hput,hs3,hg3⟩:=(HK.out w2 hb2).put (by unfold maxLen;omega) s hsz);go_roundw
      case rel=>
       refine⟨k+1,by omega,by go_num,⟨?_, ?_,HC.out.at_,fun i hi=> ?_⟩⟩
       ·rw[List.take_add_one,HX.out]
        exact hs3
       ·exact(HC.out.bel.trans (hb2.mono HC.out.bel.size)).grown hg3 (by have:=HC.out.bel.size;have:=hb2.size;omega) (fun j hj=>by cases hj;exact lR' _)
       ·by_cases e:i=k
        ·rw[e];exact H0.out
        ·exact HC.out.no i (by omega)
      case measure=>simp[intOf];omega
   ·obtain rfl:k=n:=by omega
    have ea:ans=0:=by
     rw[←HA.out];unfold B.firstNo;rw[B.firstAt_none HC.out.no]
    have HE:=hd' ea;clear ea;go_wp2_with fail;go_ret;exact⟨by rw[HE.out];rfl,HC.out.bel⟩
end Code
end Go.Proofs.YtljhklblbafjkaaGreatDoor
namespace Go.Proofs.YtljhklblbafjkaaGreatDoor
open Go.RowKit
namespace Code
theorem ranged_of(s:B.Sig):s.rangedNo=if s.scale.right=false∨s.offset.right=false∨s.min.right=false∨s.max.right=false then 1 else if s.scale.num=0 then 10 else if s.min.above s.max=true then 18 else 0:=by
 unfold B.Sig.rangedNo;congr 1
 cases s.scale.right<;>cases s.offset.right<;>cases s.min.right<;>cases s.max.right<;>simp
set_option maxRecDepth 100000 in
theorem index_rat0(a b c d e f g h:Value)(w:World):(Instr.index 199 (.agg #[a,b,c,d,e,f,g,h]) (.int .i64 0)).run Tryz.prog w= .ok (.agg #[a,b]) w:=by rfl
set_option maxRecDepth 100000 in
theorem index_rat1(a b c d e f g h:Value)(w:World):(Instr.index 199 (.agg #[a,b,c,d,e,f,g,h]) (.int .i64 1)).run Tryz.prog w= .ok (.agg #[c,d]) w:=by rfl
set_option maxRecDepth 100000 in
theorem index_rat2(a b c d e f g h:Value)(w:World):(Instr.index 199 (.agg #[a,b,c,d,e,f,g,h]) (.int .i64 2)).run Tryz.prog w= .ok (.agg #[e,f]) w:=by rfl
set_option maxRecDepth 100000 in
theorem index_rat3(a b c d e f g h:Value)(w:World):(Instr.index 199 (.agg #[a,b,c,d,e,f,g,h]) (.int .i64 3)).run Tryz.prog w= .ok (.agg #[g,h]) w:=by rfl
set_option maxRecDepth 100000 in
set_option maxHeartbeats 6400000 in
theorem ranged_any(s:B.Sig)(tv:Value)(hs:SigWf s)(w:World):Calls Tryz.prog 79 #[.agg (sigC s tv)] w (NumOut s.rangedNo w):=by
 obtain⟨ans,hans⟩:∃ans,s.rangedNo=ans:=⟨_,rfl⟩;rw[hans];rw[ranged_of]at hans;have HA:=hd' hans;have r1:=right_any2 s.scale hs.scale;have r2:=right_any2 s.offset hs.offset;have r3:=right_any2 s.min hs.min;have r4:=right_any2 s.max hs.max;have hrow:=RC.new (sigC s tv) 71 w (n:=19) rfl rfl;have hbel:Below w.heap.size w (w.alloc (.cells (sigC s tv) 71)):=(Below.refl _ _).alloc (lR' _) _;obtain⟨w1,hw1⟩:∃w1,w.alloc (.cells (sigC s tv) 71)=w1:=⟨_,rfl⟩;rw[hw1]at hrow hbel;have HR:=hd' hrow;have HB:=hd' hbel;have k9:w1.cell? ⟨w.heap.size,9,none⟩=some (.int .i64 s.scale.num):=hrow.cell (j:=9) rfl;have k10:w1.cell? ⟨w.heap.size,10,none⟩=some (.int .i64 s.scale.den):=hrow.cell (j:=10) rfl;have k11:w1.cell? ⟨w.heap.size,11,none⟩=some (.int .i64 s.offset.num):=hrow.cell (j:=11) rfl
 have k12:w1.cell? ⟨w.heap.size,12,none⟩=some (.int .i64 s.offset.den):=hrow.cell (j:=12) rfl;have k13:w1.cell? ⟨w.heap.size,13,none⟩=some (.int .i64 s.min.num):=hrow.cell (j:=13) rfl;have k14:w1.cell? ⟨w.heap.size,14,none⟩=some (.int .i64 s.min.den):=hrow.cell (j:=14) rfl;have k15:w1.cell? ⟨w.heap.size,15,none⟩=some (.int .i64 s.max.num):=hrow.cell (j:=15) rfl;have k16:w1.cell? ⟨w.heap.size,16,none⟩=some (.int .i64 s.max.den):=hrow.cell (j:=16) rfl;have i0:=index_rat0;have i1:=index_rat1;have i2:=index_rat2;have i3:=index_rat3;have HS:=hd' hs
 have hz1:w1.heap.size=w.heap.size+1:=by rw[←hw1];simp
 have HZ:=hd' hz1;clear hans hrow hbel hs hz1;go_enter Tryz.func79,Tryz.ntmps79
 go_upto_region 1 with fail
 try rw[hw1]
 clear hw1;go_wp2_with fail;clear k9 k10 k11 k12 k13 k14 k15 k16;refine wp_loop_rounds 5 ?_;have HB1:Hid (Below w1.heap.size w1 w1):=hd' (Below.refl _ _);rw[rounds_succ]
 cases h1:s.scale.right with
 | false=>
  rw[h1]at r1;have ha:=HA.out;rw[if_pos (by rw[h1];exact .inl rfl)]at ha;have HE:=hd' ha;clear ha h1;go_wp2_with (go_at_call 120;refine(r1 _).mono ?_;rintro e w2 ⟨rfl,hb2⟩);go_ret;exact⟨by rw[←HE.out];rfl,HB.out.trans (HB1.out.trans (((Below.refl _ _).alloc (lR' _) _).trans (hb2.mono (by simp)) |>.mono HB1.out.size) |>.mono HB.out.size)⟩
 | true=>
  rw[h1]at r1;have HT1:=hd' h1;clear h1;go_wp2_with (go_at_call 120;refine(r1 _).mono ?_;rintro e w2 ⟨rfl,hb2⟩);have HB2:Hid (Below w1.heap.size w1 w2):=hd' (HB1.out.trans (((Below.refl _ _).alloc (lR' _) _).trans (hb2.mono (by simp)) |>.mono HB1.out.size));clear hb2 r1;rw[rounds_succ]
  cases h2:s.offset.right with
  | false=>
   rw[h2]at r2;have ha:=HA.out;rw[if_pos (by rw[h2];exact .inr (.inl rfl))]at ha;have HE:=hd' ha;clear ha h2;go_wp2_with (go_at_call 120;refine(r2 _).mono ?_;rintro e w3 ⟨rfl,hb3⟩);go_ret;exact⟨by rw[←HE.out];rfl,HB.out.trans (HB2.out.trans (((Below.refl _ _).alloc (lR' _) _).trans (hb3.mono (by simp)) |>.mono HB2.out.size) |>.mono HB.out.size)⟩
  | true=>
   rw[h2]at r2;have HT2:=hd' h2;clear h2;go_wp2_with (go_at_call 120;refine(r2 _).mono ?_;rintro e w3 ⟨rfl,hb3⟩);have HB3:Hid (Below w1.heap.size w1 w3):=hd' (HB2.out.trans (((Below.refl _ _).alloc (lR' _) _).trans (hb3.mono (by simp)) |>.mono HB2.out.size));clear hb3 r2;rw[rounds_succ]
   cases h3:s.min.right with
   | false=>
    rw[h3]at r3;have ha:=HA.out;rw[if_pos (by rw[h3];exact .inr (.inr (.inl rfl)))]at ha;have HE:=hd' ha;clear ha h3;go_wp2_with (go_at_call 120;refine(r3 _).mono ?_;rintro e w4 ⟨rfl,hb4⟩);go_ret;exact⟨by rw[←HE.out];rfl,HB.out.trans (HB3.out.trans (((Below.refl _ _).alloc (lR' _) _).trans (hb4.mono (by simp)) |>.mono HB3.out.size) |>.mono HB.out.size)⟩
   | true=>
    rw[h3]at r3;have HT3:=hd' h3;clear h3;go_wp2_with (go_at_call 120;refine(r3 _).mono ?_;rintro e w4 ⟨rfl,hb4⟩);have HB4:Hid (Below w1.heap.size w1 w4):=hd' (HB3.out.trans (((Below.refl _ _).alloc (lR' _) _).trans (hb4.mono (by simp)) |>.mono HB3.out.size));clear hb4 r3;rw[rounds_succ]
    cases h4:s.max.right with
    | false=>
     rw[h4]at r4;have ha:=HA.out;rw[if_pos (by rw[h4];exact .inr (.inr (.inr rfl)))]at ha;have HE:=hd' ha;clear ha h4;go_wp2_with (go_at_call 120;refine(r4 _).mono ?_;rintro e w5 ⟨rfl,hb5⟩);go_ret;exact⟨by rw[←HE.out];rfl,HB.out.trans (HB4.out.trans (((Below.refl _ _).alloc (lR' _) _).trans (hb5.mono (by simp)) |>.mono HB4.out.size) |>.mono HB.out.size)⟩
    | true=>
     rw[h4]at r4;have HT4:=hd' h4;clear h4;go_wp2_with (go_at_call 120;refine(r4 _).mono ?_;rintro e w5 ⟨rfl,hb5⟩);have HB5:Hid (Below w1.heap.size w1 w5):=hd' (HB4.out.trans (((Below.refl _ _).alloc (lR' _) _).trans (hb5.mono (by simp)) |>.mono HB4.out.size));clear hb5 r4;rw[rounds_succ];have hrow5:RC w5 w.heap.size 71 19 (sigC s tv):=RC.of HR.out (HB5.out.block _ (by have:=HZ.out;omega));have k9:w5.cell? ⟨w.heap.size,9,none⟩=some (.int .i64 s.scale.num):=hrow5.cell (j:=9) rfl;have k13:w5.cell? ⟨w.heap.size,13,none⟩=some (.int .i64 s.min.num):=hrow5.cell (j:=13) rfl;have k14:w5.cell? ⟨w.heap.size,14,none⟩=some (.int .i64 s.min.den):=hrow5.cell (j:=14) rfl;have k15:w5.cell? ⟨w.heap.size,15,none⟩=some (.int .i64 s.max.num):=hrow5.cell (j:=15) rfl;have k16:w5.cell? ⟨w.heap.size,16,none⟩=some (.int .i64 s.max.den):=hrow5.cell (j:=16) rfl
     have hbz:Below w.heap.size w w5:=HB.out.trans (HB5.out.mono HB.out.size);have HBZ:=hd' hbz;have ha:=HA.out;rw[if_neg (by rw[HT1.out,HT2.out,HT3.out,HT4.out];simp)]at ha;clear hrow5 hbz i0 i1 i2 i3
     by_cases hz:s.scale.num=0
     ·have e1:(s.scale.num==0)=true:=by simp[hz]
      rw[if_pos hz]at ha;have HE:=hd' ha;clear ha hz;go_wp2_with fail;go_ret;exact⟨by rw[←HE.out];rfl,HBZ.out⟩
     ·have e1:(s.scale.num==0)=false:=by simp[hz]
      rw[if_neg hz]at ha;have hcmp:=cmp_any s.min s.max HS.out.min HS.out.max HT3.out HT4.out w5
      cases hup:s.min.above s.max with
      | true=>
       rw[hup]at hcmp;rw[if_pos hup]at ha;have HE:=hd' ha;clear ha hz hup;go_wp2_with (go_at_call 121;refine hcmp.mono ?_;rintro e w6 ⟨c,rfl,hc,hb6⟩;have hc1:(0<c)=True:=by simpa using hc);go_ret;exact⟨by rw[←HE.out];rfl,HBZ.out.trans (hb6.mono HBZ.out.size)⟩
      | false=>
       rw[hup]at hcmp;rw[if_neg (by rw[hup];simp)]at ha;have HE:=hd' ha;clear ha hz hup;go_wp2_with (go_at_call 121;refine hcmp.mono ?_;rintro e w6 ⟨c,rfl,hc,hb6⟩;have hc1:(0<c)=False:=by simpa using hc);go_ret;exact⟨by rw[←HE.out];rfl,HBZ.out.trans (hb6.mono HBZ.out.size)⟩
end Code
end Go.Proofs.YtljhklblbafjkaaGreatDoor
namespace Go.Proofs.YtljhklblbafjkaaGreatDoor
open Go.RowKit
namespace Code
def msgC(m:B.Msg)(sv:Value):Array Value:= #[.int .i64 m.line,.int .i64 m.col,.int .u32 m.id,.bool m.wide,.string m.name,.int .i64 m.size,.string m.sender,sv]
structure MsgWf(m:B.Msg):Prop where
 line:B.In64 m.line
 col:B.In64 m.col
 id:0≤m.id∧m.id≤4294967295
 name:m.name.size≤9223372036854775807
 size:B.In64 m.size
 sender:m.sender.size≤9223372036854775807
 sigs:∀s∈m.sigs,SigWf s
set_option maxRecDepth 100000 in
set_option maxHeartbeats 6400000 in
theorem head_any(m:B.Msg)(sa:Option Addr)(n cap:Nat)(hm:MsgWf m)(hn:n=m.sigs.length)(w:World):Calls Tryz.prog 49 #[.agg (msgC m (.slice sa n cap))] w (NumOut m.headNo w):=by
 obtain⟨ans,hans⟩:∃ans,m.headNo=ans:=⟨_,rfl⟩;rw[hans];unfold B.Msg.headNo at hans;rw[←hn]at hans;have HA:=hd' hans;have hrow:=RC.new (msgC m (.slice sa n cap)) 27 w (n:=8) rfl rfl;have hbel:Below w.heap.size w (w.alloc (.cells (msgC m (.slice sa n cap)) 27)):=(Below.refl _ _).alloc (lR' _) _;obtain⟨w1,hw1⟩:∃w1,w.alloc (.cells (msgC m (.slice sa n cap)) 27)=w1:=⟨_,rfl⟩;rw[hw1]at hrow hbel;have HR:=hd' hrow;have HB:=hd' hbel;have HM:=hd' hm;have k3:w1.cell? ⟨w.heap.size,3,none⟩=some (.bool m.wide):=hrow.cell (j:=3) rfl;have k4:w1.cell? ⟨w.heap.size,4,none⟩=some (.string m.name):=hrow.cell (j:=4) rfl
 have hz1:w1.heap.size=w.heap.size+1:=by rw[←hw1];simp
 have HZ:=hd' hz1;have hw4:=word_any m.name w1 hm.name;clear hans hrow hbel hz1 hm hn;obtain⟨most,hmost⟩:∃most:Int,(if m.wide=true then 536870911 else 2047)=most:=⟨_,rfl⟩;rw[hmost]at HA;have HMO:=hd' hmost;go_enter Tryz.func49,Tryz.ntmps49
 go_upto_region 1 with fail
 try rw[hw1]
 clear hw1
 cases hok:B.wordOk m.name with
 | false=>
  rw[hok]at hw4;have ha:=HA.out;rw[if_pos hok]at ha;have HE:=hd' ha;clear ha hok hmost
  cases hwd:m.wide with
  | true=>
   rw[hwd]at k3;clear hwd;go_wp2_with (go_at_call 77;refine hw4.mono ?_;rintro e w2 ⟨rfl,hb2⟩);go_ret;exact⟨by rw[←HE.out];rfl,HB.out.trans (hb2.mono HB.out.size)⟩
  | false=>
   rw[hwd]at k3;clear hwd;go_wp2_with (go_at_call 77;refine hw4.mono ?_;rintro e w2 ⟨rfl,hb2⟩);go_ret;exact⟨by rw[←HE.out];rfl,HB.out.trans (hb2.mono HB.out.size)⟩
 | true=>
  rw[hok]at hw4;have ha:=HA.out;rw[if_neg (by rw[hok];simp)]at ha;have HA2:=hd' ha;clear ha hok HA
  cases hwd:m.wide with
  | true=>
   rw[hwd,if_pos rfl]at hmost;subst hmost;rw[hwd]at k3;clear hwd
   go_upto_region 6 with(go_at_call 77;refine hw4.mono ?_;rintro e w2 ⟨rfl,hb2⟩)
   clear k3 k4 hw4;have hrow2:RC w2 w.heap.size 27 8 (msgC m (.slice sa n cap)):=RC.of HR.out (hb2.block _ (by have:=HZ.out;omega));have HB2:Hid (Below w.heap.size w w2):=hd' (HB.out.trans (hb2.mono HB.out.size));have k2:w2.cell? ⟨w.heap.size,2,none⟩=some (.int .u32 m.id):=hrow2.cell (j:=2) rfl;have k5:w2.cell? ⟨w.heap.size,5,none⟩=some (.int .i64 m.size):=hrow2.cell (j:=5) rfl;have k6:w2.cell? ⟨w.heap.size,6,none⟩=some (.string m.sender):=hrow2.cell (j:=6) rfl;have HR2:=hd' hrow2;have ha:=HA2.out;clear hrow2 hb2 HR
   by_cases hid:(536870911:Int)<m.id
   ·have e1:((536870911:Int)<m.id)=True:=by simp[hid]
    rw[if_pos hid]at ha;have HE:=hd' ha;clear ha hid;go_wp2_with fail;go_ret;exact⟨by rw[←HE.out];rfl,HB2.out⟩
   ·have e1:((536870911:Int)<m.id)=False:=by simp;omega
    rw[if_neg hid]at ha;clear hid
    by_cases hs1:m.size<0
    ·have e2:(m.size<0)=True:=by simp[hs1]
     rw[if_pos (.inl hs1)]at ha;have HE:=hd' ha;clear ha hs1;go_wp2_with fail;go_ret;exact⟨by rw[←HE.out];rfl,HB2.out⟩
    ·have e2:(m.size<0)=False:=by simp;omega
     by_cases hs2:8<m.size
     ·have e3:(8<m.size)=True:=by simp[hs2]
      rw[if_pos (.inr hs2)]at ha;have HE:=hd' ha;clear ha hs1 hs2;go_wp2_with fail;go_ret;exact⟨by rw[←HE.out];rfl,HB2.out⟩
     ·have e3:(8<m.size)=False:=by simp;omega
      rw[if_neg (by omega)]at ha;clear hs1 hs2;have hw6:=word_any m.sender w2 HM.out.sender
      cases hok:B.wordOk m.sender with
      | false=>
       rw[hok]at hw6;rw[if_pos hok]at ha;have HE:=hd' ha;clear ha hok;go_wp2_with (go_at_call 77;refine hw6.mono ?_;rintro e w3 ⟨rfl,hb3⟩);go_ret;exact⟨by rw[←HE.out];rfl,HB2.out.trans (hb3.mono HB2.out.size)⟩
      | true=>
       rw[hok]at hw6;rw[if_neg (by rw[hok];simp)]at ha;have HA3:=hd' ha;clear ha hok
       go_upto_region 12 with(go_at_call 77;refine hw6.mono ?_;rintro e w3 ⟨rfl,hb3⟩)
       clear hw6 k2 k5 k6 e1 e2 e3;have hrow3:RC w3 w.heap.size 27 8 (msgC m (.slice sa n cap)):=RC.of HR2.out (hb3.block _ (by have:=HR2.out.blk;omega));have HB3:Hid (Below w.heap.size w w3):=hd' (HB2.out.trans (hb3.mono HB2.out.size));have k7:w3.cell? ⟨w.heap.size,7,none⟩=some (.slice sa n cap):=hrow3.cell (j:=7) rfl;have ha:=HA3.out;clear hrow3 hb3
       by_cases hl:64<n
       ·have e4:((64:Int)<n)=True:=by simp;omega
        rw[if_pos hl]at ha;have HE:=hd' ha;clear ha hl;go_wp2_with fail;go_ret;exact⟨by rw[←HE.out];rfl,HB3.out⟩
       ·have e4:((64:Int)<n)=False:=by simp;omega
        rw[if_neg hl]at ha;have HE:=hd' ha;clear ha hl;go_wp2_with fail;go_ret;exact⟨by rw[←HE.out];rfl,HB3.out⟩
  | false=>
   rw[hwd,if_neg (by simp)]at hmost;subst hmost;rw[hwd]at k3;clear hwd
   go_upto_region 6 with(go_at_call 77;refine hw4.mono ?_;rintro e w2 ⟨rfl,hb2⟩)
   clear k3 k4 hw4;have hrow2:RC w2 w.heap.size 27 8 (msgC m (.slice sa n cap)):=RC.of HR.out (hb2.block _ (by have:=HZ.out;omega));have HB2:Hid (Below w.heap.size w w2):=hd' (HB.out.trans (hb2.mono HB.out.size));have k2:w2.cell? ⟨w.heap.size,2,none⟩=some (.int .u32 m.id):=hrow2.cell (j:=2) rfl;have k5:w2.cell? ⟨w.heap.size,5,none⟩=some (.int .i64 m.size):=hrow2.cell (j:=5) rfl;have k6:w2.cell? ⟨w.heap.size,6,none⟩=some (.string m.sender):=hrow2.cell (j:=6) rfl;have HR2:=hd' hrow2;have ha:=HA2.out;clear hrow2 hb2 HR
   by_cases hid:(2047:Int)<m.id
   ·have e1:((2047:Int)<m.id)=True:=by simp[hid]
    rw[if_pos hid]at ha;have HE:=hd' ha;clear ha hid;go_wp2_with fail;go_ret;exact⟨by rw[←HE.out];rfl,HB2.out⟩
   ·have e1:((2047:Int)<m.id)=False:=by simp;omega
    rw[if_neg hid]at ha;clear hid
    by_cases hs1:m.size<0
    ·have e2:(m.size<0)=True:=by simp[hs1]
     rw[if_pos (.inl hs1)]at ha;have HE:=hd' ha;clear ha hs1;go_wp2_with fail;go_ret;exact⟨by rw[←HE.out];rfl,HB2.out⟩
    ·have e2:(m.size<0)=False:=by simp;omega
     by_cases hs2:8<m.size
     ·have e3:(8<m.size)=True:=by simp[hs2]
      rw[if_pos (.inr hs2)]at ha;have HE:=hd' ha;clear ha hs1 hs2;go_wp2_with fail;go_ret;exact⟨by rw[←HE.out];rfl,HB2.out⟩
     ·have e3:(8<m.size)=False:=by simp;omega
      rw[if_neg (by omega)]at ha;clear hs1 hs2;have hw6:=word_any m.sender w2 HM.out.sender
      cases hok:B.wordOk m.sender with
      | false=>
       rw[hok]at hw6;rw[if_pos hok]at ha;have HE:=hd' ha;clear ha hok;go_wp2_with (go_at_call 77;refine hw6.mono ?_;rintro e w3 ⟨rfl,hb3⟩);go_ret;exact⟨by rw[←HE.out];rfl,HB2.out.trans (hb3.mono HB2.out.size)⟩
      | true=>
       rw[hok]at hw6;rw[if_neg (by rw[hok];simp)]at ha;have HA3:=hd' ha;clear ha hok
       go_upto_region 12 with(go_at_call 77;refine hw6.mono ?_;rintro e w3 ⟨rfl,hb3⟩)
       clear hw6 k2 k5 k6 e1 e2 e3;have hrow3:RC w3 w.heap.size 27 8 (msgC m (.slice sa n cap)):=RC.of HR2.out (hb3.block _ (by have:=HR2.out.blk;omega));have HB3:Hid (Below w.heap.size w w3):=hd' (HB2.out.trans (hb3.mono HB2.out.size));have k7:w3.cell? ⟨w.heap.size,7,none⟩=some (.slice sa n cap):=hrow3.cell (j:=7) rfl;have ha:=HA3.out;clear hrow3 hb3
       by_cases hl:64<n
       ·have e4:((64:Int)<n)=True:=by simp;omega
        rw[if_pos hl]at ha;have HE:=hd' ha;clear ha hl;go_wp2_with fail;go_ret;exact⟨by rw[←HE.out];rfl,HB3.out⟩
       ·have e4:((64:Int)<n)=False:=by simp;omega
        rw[if_neg hl]at ha;have HE:=hd' ha;clear ha hl;go_wp2_with fail;go_ret;exact⟨by rw[←HE.out];rfl,HB3.out⟩
end Code
end Go.Proofs.YtljhklblbafjkaaGreatDoor
namespace Go.Proofs.YtljhklblbafjkaaGreatDoor
open Go.RowKit
namespace Code
attribute [local go_sem ↓] Go.wp_at_zero Go.wp_at_succ
set_option maxRecDepth 100000 in
set_option maxHeartbeats 3200000 in
theorem cnumber_any(no:Int)(h:no=15∨no=16)(w:World):Calls Tryz.prog 118 #[.iface 93 (.int .i64 no)] w (NumOut no w):=by
 have hb0:Below w.heap.size w (w.alloc (.cells #[.int .i64 15,.int .i64 16] 93)):=(Below.refl _ _).alloc (lR' _) _
 have c0:(w.alloc (.cells #[.int .i64 15,.int .i64 16] 93)).cell? ⟨w.heap.size,0,none⟩=some (.int .i64 15):=by rw[cell_of_row _ _ _ _ _ _ (heap_alloc_new w _)];rfl
 have c1:(w.alloc (.cells #[.int .i64 15,.int .i64 16] 93)).cell? ⟨w.heap.size,1,none⟩=some (.int .i64 16):=by rw[cell_of_row _ _ _ _ _ _ (heap_alloc_new w _)];rfl
 have hz:(w.alloc (.cells #[.int .i64 15,.int .i64 16] 93)).heap.size=w.heap.size+1:=by simp
 obtain⟨w1,hw1⟩:∃w1,w.alloc (.cells #[.int .i64 15,.int .i64 16] 93)=w1:=⟨_,rfl⟩;rw[hw1]at hb0 c0 c1 hz;have HB:=hd' hb0;have C1:=hd' c1;have HZ:=hd' hz;clear hb0 c1 hz;rcases h with rfl | rfl
 ·have hi:=fun W=>errorsIs_any (.iface 93 (.int .i64 15)) 15 15 (.errno 15) W
  go_enter Tryz.func118,Tryz.ntmps118
  go_upto_region 2 with fail
  try rw[hw1]
  clear hw1;refine wp_loop_rounds 2 ?_;rw[rounds_succ];go_wp2_with (go_at_call 70;refine(hi _).mono ?_;rintro e w2 ⟨rfl,hb2⟩);go_ret;exact⟨rfl,HB.out.trans (hb2.mono HB.out.size)⟩
 ·have hi:=fun W=>errorsIs_any (.iface 93 (.int .i64 16)) 16 15 (.errno 16) W
  have hj:=fun W=>errorsIs_any (.iface 93 (.int .i64 16)) 16 16 (.errno 16) W
  go_enter Tryz.func118,Tryz.ntmps118
  go_upto_region 2 with fail
  try rw[hw1]
  clear hw1;refine wp_loop_rounds 2 ?_;rw[rounds_succ];go_wp2_with (go_at_call 70;refine(hi _).mono ?_;rintro e w2 ⟨rfl,hb2⟩);have c1:w2.cell? ⟨w.heap.size,1,none⟩=some (.int .i64 16):=(hb2.cell (p:=⟨w.heap.size,1,none⟩) (by have:=HZ.out;show w.heap.size<_;omega)).trans C1.out;have HB2:=hd' (HB.out.trans (hb2.mono HB.out.size));clear hb2 c0;rw[rounds_succ];go_wp2_with (go_at_call 70;refine(hj _).mono ?_;rintro e w3 ⟨rfl,hb3⟩);go_ret;exact⟨rfl,HB2.out.trans (hb3.mono HB2.out.size)⟩
def bitF(s:B.Sig)(j:Nat):Bool:=decide (j∈s.bits)
def WhereOut(s:B.Sig)(size:Int)(w:World)(e:Ending)(w':World):Prop:=∃f,e= .returned (.tuple #[.agg (setC f),.int .i64 (s.whereNo size)])∧(s.whereNo size=0→f=bitF s)∧Below w.heap.size w w'
theorem where_no{s:B.Sig}{size:Int}(h:s.placeNo≠0):s.whereNo size=s.placeNo∧(s.placeNo=15∨s.placeNo=16):=by
 refine⟨by unfold B.Sig.whereNo;rw[if_pos h], ?_⟩;unfold B.Sig.placeNo at h⊢;split
 ·exact .inl rfl
 ·split
  ·exact .inr rfl
  ·split
   ·rename_i h1 h2 h3
    rw[if_neg h1,if_neg h2,if_pos h3]at h;exact absurd rfl h
   ·exact .inr rfl
structure WhrAt(s:B.Sig)(lo k R Y:Nat)(w wr:World):Prop where
 res:SetAt wr R (fun _=>false)
 set:SetAt wr Y (bitF s)
 bel:Below w.heap.size w wr
 no:∀j,lo≤j→j<k→bitF s j=false
set_option maxRecDepth 100000 in
set_option maxHeartbeats 6400000 in
theorem where_any(s:B.Sig)(tv:Value)(size:Int)(hs:SigWf s)(w:World):Calls Tryz.prog 78 #[.agg (sigC s tv),.int .i64 size] w (WhereOut s size w):=by
 have hrow:=RC.alloc (RC.new (sigC s tv) 71 w (n:=19) rfl rfl) (.cells (setC fun _=>false) 136)
 have hres:SetAt ((w.alloc (.cells (sigC s tv) 71)).alloc (.cells (setC fun _=>false) 136)) (w.heap.size+1) (fun _=>false):=by
  have:=SetAt.new (fun _=>false) (w.alloc (.cells (sigC s tv) 71));rw[World.size_alloc]at this;exact this
 have hbel:Below w.heap.size w ((w.alloc (.cells (sigC s tv) 71)).alloc (.cells (setC fun _=>false) 136)):=((Below.refl _ _).alloc (lR' _) _).alloc (by simp) _
 have hz1:((w.alloc (.cells (sigC s tv) 71)).alloc (.cells (setC fun _=>false) 136)).heap.size=w.heap.size+2:=by simp
 obtain⟨w1,hw1⟩:∃w1,(w.alloc (.cells (sigC s tv) 71)).alloc (.cells (setC fun _=>false) 136)=w1:=⟨_,rfl⟩;rw[hw1]at hrow hres hbel hz1;rw[←setC_no]at hw1;unfold noSet at hw1;have HRES:=hd' hres;have HB:=hd' hbel;have HZ:=hd' hz1;have hbits:=bits_any s tv hs w1;have hrr:=RC.range hrow;clear hrow hres hbel hz1;go_enter Tryz.func78,Tryz.ntmps78
 go_upto_region 1 with fail
 try rw[hw1]
 clear hw1
 by_cases hp:s.placeNo=0
 ·have hb0:=hbits.mono (fun e w' (h:BitsAny s w1 e w')=>h.1 hp)
  have hpl:=B.Sig.place_ok hp;obtain⟨lo,hlo⟩:∃lo:Nat,(lo:Int)=8*Min.min (Max.max size 0) 8∧lo≤64:=⟨(8*Min.min (Max.max size 0) 8).toNat,by omega,by omega⟩
  have hall:s.bits.all (fun b=>decide ((b:Int)<8*Min.min (Max.max size 0) 8))=true↔∀j,lo≤j→j<64→bitF s j=false:=by
   rw[List.all_eq_true];constructor
   ·intro h j h1 h2
    unfold bitF;rw[decide_eq_false_iff_not];intro hm;have:=h j hm;rw[decide_eq_true_eq,←hlo.1]at this;omega
   ·intro h b hb
    rw[decide_eq_true_eq,←hlo.1];have h63:=hpl.2.2 b hb
    by_cases hlt:b<lo
    ·omega
    ·have:=h b (by omega) (by omega)
     unfold bitF at this;rw[decide_eq_false_iff_not]at this;exact absurd hb this
  have hw0:(∀j,lo≤j→j<64→bitF s j=false)→s.whereNo size=0:=fun h=>by
   unfold B.Sig.whereNo;rw[if_neg (by simp[hp]),if_pos (hall.2 h)]
  have hw16:∀j,lo≤j→j<64→bitF s j=true→s.whereNo size=16:=fun j h1 h2 h3=>by
   unfold B.Sig.whereNo;rw[if_neg (by simp[hp]),if_neg (fun h=>by have:=hall.1 h j h1 h2;rw[h3]at this;cases this)]
  obtain⟨no,hno⟩:∃no,s.whereNo size=no:=⟨_,rfl⟩;have HNO:=hd' hno;rw[hno]at hw0 hw16;have HW0:=hd' hw0;have HW16:=hd' hw16;have HPL:=hd' hpl;have hl64:=hlo.2;have hmm:8*Min.min (Max.max size 0) 8=(lo:Int):=hlo.1.symm;clear hbits hp hno hw0 hw16 hall hpl
  go_upto_region 4 with(first
   | refine wpList_load_mid (by rfl) 71 _ (by rfl) w.heap.size 0 (by rfl) (sigC s tv).toList _ hrr Tryz.underlying71 (by rfl) (by rw[infoN71];rfl) ?_
   | (go_at_call 55;refine hb0.mono ?_;rintro e w2 ⟨g,cap,rfl,hown,hb2⟩))
  have hres2:SetAt w2 (w.heap.size+1) (fun _=>false):=CellsAt.below HRES.out hb2 (by have:=HZ.out;omega);have HB2:Hid (Below w.heap.size w w2):=hd' (HB.out.trans (hb2.mono HB.out.size));have HRES2:=hd' hres2;have hset:=setOf_any (some ⟨g,0,none⟩) s.bits.length cap s.bits w2 (ListAt.ofOwn hown.own) HPL.out.2.2 s.bits_nodup (by rw[s.bits_length];have:=HPL.out.1;omega);clear hb2 hb0 hrr hres2 hown
  go_upto_region 7 with(first
   | (go_at_call 119;refine hset.mono ?_;rintro e w3 ⟨rfl,hb3⟩)
   | refine wpList_store_mid (by rfl) 136 _ _ (by rfl) w3.heap.size 0 (setC fun j=>decide (j∈s.bits)) (by rfl) (by rfl) (by rw[setC_size];exact there_alloc _ _ _ (by rfl)) (by rw[info136];simp[setC_size]) (setC_ones _) ?_)
  generalize hw4:World.setCells _ _ _ _=w4
  have hset3:SetAt w4 w3.heap.size (bitF s):=by
   rw[←hw4];exact SetAt.over _ _ (by rfl) _
  have hres3:SetAt w4 (w.heap.size+1) (fun _=>false):=by
   rw[←hw4];have h3:SetAt w3 (w.heap.size+1) (fun _=>false):=CellsAt.below HRES2.out hb3 (lt_of_block HRES2.out.choose_spec.1);exact CellsAt.grown (CellsAt.alloc h3 _) (grownBy_setCells _ _ _ _) (by have:=lt_of_block h3.choose_spec.1;omega)
  have hb4:Below w.heap.size w w4:=by
   rw[←hw4];have h3:=HB2.out.trans (hb3.mono HB2.out.size);exact(h3.alloc h3.size _).grown (grownBy_setCells _ _ _ _) (by have:=h3.size;simp;omega) (fun k hk=>by cases hk;exact h3.size)
  obtain⟨Y,hY⟩:∃Y,w3.heap.size=Y:=⟨_,rfl⟩
  have hne:w.heap.size+1<Y:=by rw[←hY];have:=hb3.size;have:=lt_of_block HRES2.out.choose_spec.1;omega
  rw[hY]at hset3⊢;have HNE:=hd' hne;have HAT:Hid (WhrAt s lo lo (w.heap.size+1) Y w w4):=hd' ⟨hres3,hset3,hb4,fun j h1 h2=>by omega⟩;clear hw4 hset3 hres3 hb4 hY hne hset hb3 HRES2 HB2 HRES;clear hlo;go_wp2_with fail;clear hmm
  go_loopw [9] (fun i wr=>∃k:Nat,lo≤k∧k≤64∧i= .int .i64 k∧WhrAt s lo k (w.heap.size+1) Y w wr) (fun i _=>64-(intOf i).toNat)
  case atStart=>exact⟨lo,lR' _,hl64,rfl,HAT.out⟩
  case round=>
   obtain⟨k,hk1,hk2,rfl,hc⟩:=hrel;have HC:=hd' hc;clear HAT
   by_cases hlt:k<64
   ·have c0:=CellsAt.cell hc.set hlt
    have k0:(0:Int)≤(k:Int):=by omega
    have k1:(k:Int)<64:=by omega
    clear hc
    cases hf:bitF s k with
    | true=>
     rw[hf]at c0;have HE:=hd' (HW16.out k hk1 hlt hf);have ht:=SetAt.there HC.out.res;have hres:SetAt (wr.setCells (w.heap.size+1) 0 (setC fun _=>false).toList) (w.heap.size+1) (fun _=>false):=SetAt.store HC.out.res _;have HRR:=hd' hres;clear hf hres;go_wp2_with (refine wpList_store_mid (by rfl) 136 _ _ (by rfl) (w.heap.size+1) 0 (setC fun _=>false) (by rfl) (by rw[←setC_no];unfold noSet;rfl) (by rw[setC_size];exact ht) (by rw[info136];simp[setC_size]) (setC_ones _) ?_);refine bodyPost_ret (v:=.tuple #[.agg (setC fun _=>false),.int .i64 16]) ?_ rfl ?_
     rotate_left
     ·exact⟨fun _=>false,by rw[HNO.out,HE.out],(fun h=>by rw[HNO.out,HE.out]at h;exact absurd h (by decide)),HC.out.bel.grown (grownBy_setCells _ _ _ _) (by have:=HC.out.bel.size;omega) (fun k hk=>by simp at hk;omega)⟩
     exact ret_set Tryz.results78 (by rfl) (by rfl) HRR.out
    | false=>
     rw[hf]at c0;have HF:=hd' hf;clear hf;go_wp2_with fail;go_roundw
     case rel=>
      refine⟨k+1,by omega,by omega,by go_num,HC.out.res,HC.out.set,HC.out.bel,fun j h1 h2=> ?_⟩
      by_cases e:j=k
      ·rw[e];exact HF.out
      ·exact HC.out.no j h1 (by omega)
     case measure=>simp[intOf];omega
   ·have k1:((k:Int)<64)=False:=by simp;omega
    have HE:=hd' (HW0.out (fun j h1 h2=>HC.out.no j h1 (by omega)));have hr:=SetAt.range HC.out.set;have ht:=SetAt.there HC.out.res;have hres:SetAt (wr.setCells (w.heap.size+1) 0 (setC (bitF s)).toList) (w.heap.size+1) (bitF s):=SetAt.store HC.out.res _;have HRR:=hd' hres;clear hc hres
    go_wp2_with (first
     | refine wpList_load_mid (by rfl) 136 _ (by rfl) Y 0 (by rfl) (setC (bitF s)).toList _ hr Tryz.underlying136 (by rfl) (by rw[info136];simp[setC_size]) ?_
     | refine wpList_store_mid (by rfl) 136 _ _ (by rfl) (w.heap.size+1) 0 (setC (bitF s)) (by rfl) (by rfl) (by rw[setC_size];exact ht) (by rw[info136];simp[setC_size]) (setC_ones _) ?_)
    refine bodyPost_ret (v:=.tuple #[.agg (setC (bitF s)),.int .i64 0]) ?_ rfl ?_
    rotate_left
    ·exact⟨bitF s,by rw[HNO.out,HE.out],fun _=>rfl,HC.out.bel.grown (grownBy_setCells _ _ _ _) (by have:=HC.out.bel.size;omega) (fun k hk=>by simp at hk;omega)⟩
    exact ret_set Tryz.results78 (by rfl) (by rfl) HRR.out
 ·obtain⟨hwn,hno⟩:=where_no (size:=size) hp
  have hb0:=hbits.mono (fun e w' (h:BitsAny s w1 e w')=>h.2 hp);unfold BitsNo at hb0
  have hnum:=fun W=>cnumber_any s.placeNo hno W
  obtain⟨no,hnn⟩:∃no,s.placeNo=no:=⟨_,rfl⟩;rw[hnn]at hb0 hnum hwn;have HWN:=hd' hwn
  have hne:no≠0:=by rw[←hnn];exact hp
  have HNE:=hd' hne;clear hbits hp hno hnn hwn hne
  go_upto_region 3 with(first
   | refine wpList_load_mid (by rfl) 71 _ (by rfl) w.heap.size 0 (by rfl) (sigC s tv).toList _ hrr Tryz.underlying71 (by rfl) (by rw[infoN71];rfl) ?_
   | (go_at_call 55;refine hb0.mono ?_;rintro e w2 ⟨rfl,hb2⟩))
  have hres2:SetAt w2 (w.heap.size+1) (fun _=>false):=CellsAt.below HRES.out hb2 (by have:=HZ.out;omega);have HB2:Hid (Below w.heap.size w w2):=hd' (HB.out.trans (hb2.mono HB.out.size));have HRES2:=hd' hres2;clear hb2 hb0 hrr hres2
  go_wp2_with (first
   | (go_at_call 118;refine(hnum _).mono ?_;rintro e w3 ⟨rfl,hb3⟩;have hres3:SetAt w3 (w.heap.size+1) (fun _=>false):=CellsAt.below HRES2.out hb3 (lt_of_block HRES2.out.choose_spec.1);have ht3:=SetAt.there hres3)
   | refine wpList_store_mid (by rfl) 136 _ _ (by rfl) (w.heap.size+1) 0 (setC fun _=>false) (by rfl) (by rw[←setC_no];unfold noSet;rfl) (by rw[setC_size];exact ht3) (by rw[info136];simp[setC_size]) (setC_ones _) ?_)
  refine bodyPost_ret (v:=.tuple #[.agg (setC fun _=>false),.int .i64 no]) ?_ rfl ?_
  rotate_left
  ·exact⟨fun _=>false,by rw[HWN.out],fun h=>absurd (HWN.out.symm.trans h) HNE.out,(HB2.out.trans (hb3.mono HB2.out.size)).grown (grownBy_setCells _ _ _ _) (by have:=HB2.out.size;have:=hb3.size;omega) (fun k hk=>by simp at hk;omega)⟩
  exact ret_set Tryz.results78 (by rfl) (by rfl) (SetAt.store hres3 _)
end Code
end Go.Proofs.YtljhklblbafjkaaGreatDoor
