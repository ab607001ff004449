/- Packages chars and check: names and words. -/
import Derived.Test.YtljhklblbafjkaaGreatDoorLoQ
import Derived.Test.YtljhklblbafjkaaGreatDoorBaseQ
import Derived.WalkKit
import Derived.Laws.RangeAny
import Derived.Lib.OthersKept
import Derived.Test.YtljhklblbafjkaaGreatDoorRowQ
import Derived.Deep.Cut
import Derived.Deep.DeepCutAuto
import Derived.Deep.CutBlock
import Derived.Deep.DrawnRows
import Derived.Deep.QuietTactic
import Derived.BigQuiet
import Derived.Shelf.Lay
import Derived.Shelf.Bits.Mul64
open Go.Lib renaming hid→hd'
namespace Go.Proofs.YtljhklblbafjkaaGreatDoor
open Go.RowKit
namespace Code
set_option maxHeartbeats 1600000 in
theorem letter_any(c:Nat)(w:World):Calls Tryz.prog 152 #[.int .i32 (c:Int)] w fun e w'=>e= .returned (.bool (B.letterB c))∧w'=w:=by
 obtain⟨r,hr⟩:∃r,B.letterB c=r:=⟨_,rfl⟩;rw[hr];have HR:=hd' hr;clear hr;go_enter Tryz.func152,Tryz.ntmps152;go_wp2_with fail
 all_goals
  go_ret;refine⟨?_,rfl⟩;rw[←HR.out];unfold B.letterB
  show Ending.returned (.bool _)=Ending.returned (.bool _)
  congr 1;congr 1;rw[Bool.eq_iff_iff]
  first
   | (simp;done)
   | (simp;omega)
theorem iterPos_of{w:World}{k:Nat}{s:ByteArray}{p:Nat}(h:w.heap[k]? =some (.stringIter s p)):w.iterPos k=p:=by simp[World.iterPos,h]
theorem get_bang(s:ByteArray)(i:Nat)(h:i<s.size):s.get! i=s[i]'h:=by
 simp[ByteArray.get!,getElem!_pos,h];rfl
theorem nameOk_no{s:ByteArray}{i:Nat}(hi:i<s.size)(h:B.nameAt s i=false):B.nameOk s=false:=by
 unfold B.nameOk
 have:(List.range s.size).all (B.nameAt s)=false:=by
  rw[List.all_eq_false];exact⟨i,List.mem_range.2 hi,by simp[h]⟩
 rw[this,Bool.false_and]
theorem nameOk_end{s:ByteArray}(h:∀i,i<s.size→B.nameAt s i=true):B.nameOk s=decide (1≤s.size∧s.size≤64):=by
 unfold B.nameOk;have:(List.range s.size).all (B.nameAt s)=true:=List.all_eq_true.2 (fun i hi=>h i (List.mem_range.1 hi));rw[this,Bool.true_and]
set_option maxRecDepth 1000000 in
set_option maxHeartbeats 3200000 in
theorem name_any(s:ByteArray)(w:World)(hs:s.size≤9223372036854775807):
    Calls Tryz.prog 117 #[.string s] w fun e w'=>e= .returned (.bool (B.nameOk s))∧Below w.heap.size w w':=by
 obtain⟨ans,hans⟩:∃ans,B.nameOk s=ans:=⟨_,rfl⟩;rw[hans];have HA:=hd' hans;clear hans;go_enter Tryz.func117,Tryz.ntmps117;go_wp2_with fail
 go_loopw [] (fun wr=>∃pos,wr.heap[w.heap.size]? =some (.stringIter s pos)∧Below w.heap.size w wr∧Hid (∀i,i<pos→B.nameAt s i=true)∧pos≤s.size) (fun wr=>s.size-wr.iterPos w.heap.size)
 case atStart=>exact⟨0,World.iter_heap w s 0,(Below.refl _ _).alloc (Nat.le_refl _) _,hd' (fun i h=>by omega),by omega⟩
 case round=>
  obtain⟨pos,hit,hbw,HN,hps⟩:=hrel;have hpos0:=iterPos_of hit
  by_cases hp:pos<s.size
  ·have hnx:∀ty,(Instr.next (.pointer (some ⟨w.heap.size,0,none⟩)) true ty).run Tryz.prog wr=_:=fun ty=>Lib.run_next_any_at wr w.heap.size s pos ty hit hp
   have hit2:=Lib.iterAt_heap wr w.heap.size s pos (pos+(Utf8.decode s pos).2) hit;have hbw2:=Lib.below_iterAt hbw (k:=w.heap.size) (Nat.le_refl _) s (pos+(Utf8.decode s pos).2);obtain⟨d1,hd1⟩:∃d,(Utf8.decode s pos).1=d:=⟨_,rfl⟩;obtain⟨d2,hd2⟩:∃d,(Utf8.decode s pos).2=d:=⟨_,rfl⟩;rw[hd1,hd2]at hnx;rw[hd2]at hit2 hbw2;obtain⟨W1,hW1⟩:∃W1,wr.iterAt w.heap.size s (pos+d2)=W1:=⟨_,rfl⟩;rw[hW1]at hnx hit2 hbw2
   have hc:B.nameAt s pos=(B.letterB d1||(!decide (pos=0)&&B.digitB d1))∧(B.nameAt s pos=true→d2=1):=by
    have hb:=get_bang s pos hp
    by_cases ha:(s[pos]'hp).toNat<128
    ·have:=decode_ascii s pos hp ha
     rw[this]at hd1 hd2;simp only at hd1 hd2;refine⟨?_,fun _=>hd2.symm⟩;unfold B.nameAt;rw[hb,hd1]
    ·have h2:=(decode_high s pos hp (by omega)).1
     have h3:(s[pos]'hp).toNat<256:=(s[pos]'hp).toNat_lt;rw[hd1]at h2
     have e:∀x,128≤x→B.letterB x=false∧B.digitB x=false:=fun x hx=>by
      constructor
      ·unfold B.letterB;simp;omega
      ·unfold B.digitB;simp;omega
     have e1:=e _ h2;have e2:=e (s[pos]'hp).toNat (by omega)
     have:B.nameAt s pos=false:=by
      unfold B.nameAt;rw[hb,e2.1,e2.2];simp
     rw[this];refine⟨by rw[e1.1,e1.2];simp,fun h=>by cases h⟩
   have HW:=hd' hW1;have HIT:=hd' hit2;have HBW:=hd' hbw2;have HC:=hd' hc;have HP:=hd' hp;have HO:=hd' hit;have HP0:=hd' hpos0;have hz:Hid (w.heap.size<W1.heap.size):=hd' (lt_of_block hit2);clear hW1 hit2 hbw2 hc hit hbw hps hd1 hd2 hpos0
   have no:B.nameAt s pos=false→ans=false:=fun h=>by rw[←HA.out];exact nameOk_no HP.out h
   have NO:=hd' no
   have YES:Hid (B.nameAt s pos=true→W1.heap[w.heap.size]? =some (.stringIter s (pos+1))∧Hid (∀i,i<pos+1→B.nameAt s i=true)∧pos+1≤s.size):=hd' (fun h=>by
    have hd:=HC.out.2 h;have h1:=HIT.out;rw[hd]at h1;refine⟨h1,hd' (fun i hi=> ?_),HP.out⟩
    by_cases e:i=pos
    ·rw[e];exact h
    ·exact HN.out i (by omega))
   clear no
   by_cases hl:B.letterB d1=true
   ·have HY:=YES.out (by rw[HC.out.1,hl];rfl)
    have HYY:=hd' HY;clear HY;go_wp2_with (go_at_call 152;refine(letter_any d1 _).mono ?_;rw[hl];rintro e w2 ⟨rfl,rfl⟩);go_roundw
    case rel=>exact⟨pos+1,HYY.out.1,HBW.out,HYY.out.2.1,HYY.out.2.2⟩
    case measure=>
     rw[iterPos_of HYY.out.1,HP0.out];have:=HP.out;omega
   ·simp only[Bool.not_eq_true]at hl
    by_cases h0:pos=0
    ·have e0:((pos:Int)==0)=true:=by simp[h0]
     have ea:=NO.out (by rw[HC.out.1,hl];simp[h0]);clear h0;go_wp2_with (go_at_call 152;refine(letter_any d1 _).mono ?_;rw[hl];rintro e w2 ⟨rfl,rfl⟩);go_ret;exact⟨by rw[ea];rfl,HBW.out⟩
    ·have e0:((pos:Int)==0)=false:=by simp[h0]
     by_cases h1:d1<48
     ·have ea:=NO.out (by rw[HC.out.1,hl];unfold B.digitB;simp;omega)
      have e1:((d1:Int)<48)=True:=by simp;omega
      clear h0 h1;go_wp2_with (go_at_call 152;refine(letter_any d1 _).mono ?_;rw[hl];rintro e w2 ⟨rfl,rfl⟩);go_ret;exact⟨by rw[ea];rfl,HBW.out⟩
     ·have e1:((d1:Int)<48)=False:=by simp;omega
      by_cases h2:57<d1
      ·have ea:=NO.out (by rw[HC.out.1,hl];unfold B.digitB;simp;omega)
       have e2:((57:Int)<d1)=True:=by simp;omega
       clear h0 h1 h2;go_wp2_with (go_at_call 152;refine(letter_any d1 _).mono ?_;rw[hl];rintro e w2 ⟨rfl,rfl⟩);go_ret;exact⟨by rw[ea];rfl,HBW.out⟩
      ·have e2:((57:Int)<d1)=False:=by simp;omega
       have HYY:=hd' (YES.out (by rw[HC.out.1,hl];unfold B.digitB;simp;omega));clear h0 h1 h2;go_wp2_with (go_at_call 152;refine(letter_any d1 _).mono ?_;rw[hl];rintro e w2 ⟨rfl,rfl⟩);go_roundw
       case rel=>exact⟨pos+1,HYY.out.1,HBW.out,HYY.out.2.1,HYY.out.2.2⟩
       case measure=>
        rw[iterPos_of HYY.out.1,HP0.out];have:=HP.out;omega
  ·have hnx:∀ty,(Instr.next (.pointer (some ⟨w.heap.size,0,none⟩)) true ty).run Tryz.prog wr=_:=fun ty=>Lib.run_next_end_at wr w.heap.size s pos ty hit hp
   have hend:=nameOk_end (s:=s) (fun i hi=>HN.out i (by omega));have HE:=hd' (HA.out.symm.trans hend);have HBW:=hd' hbw;clear hend hbw hit hpos0;go_wp2_with fail
   all_goals go_ret
   all_goals
    refine⟨?_,HBW.out⟩;rw[HE.out]
    have hz:s.toList=[]↔s.size=0:=by
     rw[ByteArray.toList_eq,←List.length_eq_zero_iff,Array.length_toList];rfl
    show Ending.returned (.bool _)=Ending.returned (.bool _)
    congr 2;rw[Bool.eq_iff_iff]
   ·rename_i h
    have:=hz.1 h;simp;omega
   ·rename_i h
    have:s.size≠0:=fun e=>h (hz.2 e)
    have e2:s.toList.isEmpty=false:=by simp[h]
    rw[e2];simp;omega
theorem str_eq(s:ByteArray)(k:ByteArray):(s.toList==k.toList)=decide (k=s):=by
 rw[Bool.eq_iff_iff,ByteArray.toList_eq,ByteArray.toList_eq];simp;constructor
 ·intro h
  cases s;cases k;simp at h;rw[h]
 ·intro h;rw[h]
theorem kept_any(s:ByteArray):(B.kept.any fun k=>decide (k=s))=((s.toList==[86,69,82,83,73,79,78])||(s.toList==[66,85,95])||(s.toList==[66,79,95])||(s.toList==[83,71,95])||(s.toList==[86,65,76,95])||(s.toList==[67,77,95])):=by
 have e1: "VERSION".toUTF8.toList=[86,69,82,83,73,79,78]:=by rw[ByteArray.toList_eq];decide+kernel
 have e2: "BU_".toUTF8.toList=[66,85,95]:=by rw[ByteArray.toList_eq];decide+kernel
 have e3: "BO_".toUTF8.toList=[66,79,95]:=by rw[ByteArray.toList_eq];decide+kernel
 have e4: "SG_".toUTF8.toList=[83,71,95]:=by rw[ByteArray.toList_eq];decide+kernel
 have e5: "VAL_".toUTF8.toList=[86,65,76,95]:=by rw[ByteArray.toList_eq];decide+kernel
 have e6: "CM_".toUTF8.toList=[67,77,95]:=by rw[ByteArray.toList_eq];decide+kernel
 rw[←e1,←e2,←e3,←e4,←e5,←e6];simp only[str_eq];simp[B.kept,List.any,Bool.or_assoc]
theorem split6{k1 k2 k3 k4 k5 k6:Bool}:k1=true∨(k1=false∧k2=true)∨(k1=false∧k2=false∧k3=true)∨(k1=false∧k2=false∧k3=false∧k4=true)∨(k1=false∧k2=false∧k3=false∧k4=false∧k5=true)∨(k1=false∧k2=false∧k3=false∧k4=false∧k5=false∧k6=true)∨(k1=false∧k2=false∧k3=false∧k4=false∧k5=false∧k6=false):=by
 cases k1<;>cases k2<;>cases k3<;>cases k4<;>cases k5<;>cases k6<;>simp
set_option maxHeartbeats 3200000 in
theorem word_any(s:ByteArray)(w:World)(hs:s.size≤9223372036854775807):
    Calls Tryz.prog 77 #[.string s] w fun e w'=>e= .returned (.bool (B.wordOk s))∧Below w.heap.size w w':=by
 have hn:=name_any s w hs
 have hans:B.wordOk s=(!((s.toList==[86,69,82,83,73,79,78])||(s.toList==[66,85,95])||(s.toList==[66,79,95])||(s.toList==[83,71,95])||(s.toList==[86,65,76,95])||(s.toList==[67,77,95]))&&B.nameOk s):=by
  unfold B.wordOk;rw[kept_any]
 obtain⟨nk,hnk⟩:∃nk,B.nameOk s=nk:=⟨_,rfl⟩;rw[hnk]at hn hans;clear hnk;obtain⟨k1,h1⟩:∃k,(s.toList==[86,69,82,83,73,79,78])=k:=⟨_,rfl⟩;obtain⟨k2,h2⟩:∃k,(s.toList==[66,85,95])=k:=⟨_,rfl⟩;obtain⟨k3,h3⟩:∃k,(s.toList==[66,79,95])=k:=⟨_,rfl⟩;obtain⟨k4,h4⟩:∃k,(s.toList==[83,71,95])=k:=⟨_,rfl⟩;obtain⟨k5,h5⟩:∃k,(s.toList==[86,65,76,95])=k:=⟨_,rfl⟩;obtain⟨k6,h6⟩:∃k,(s.toList==[67,77,95])=k:=⟨_,rfl⟩;rw[h1,h2,h3,h4,h5,h6]at hans;rw[hans];clear hans;rcases @split6 k1 k2 k3 k4 k5 k6 with rfl | ⟨rfl,rfl⟩ | ⟨rfl,rfl,rfl⟩ | ⟨rfl,rfl,rfl,rfl⟩ | ⟨rfl,rfl,rfl,rfl,rfl⟩ | ⟨rfl,rfl,rfl,rfl,rfl,rfl⟩ | ⟨rfl,rfl,rfl,rfl,rfl,rfl⟩
 all_goals go_enter Tryz.func77,Tryz.ntmps77
 all_goals go_wp2_with (go_at_call 117;refine hn.mono ?_;rintro e w2 ⟨rfl,hb⟩)
 all_goals go_ret
 all_goals first
  | exact⟨by simp,Below.refl _ _⟩
  | exact⟨by simp,hb⟩
end Code
end Go.Proofs.YtljhklblbafjkaaGreatDoor
namespace Go.Proofs
open Go.Shelf
shelf_lay Lays.n264 Nm 264 at Tryz as Tryz.mul64
end Go.Proofs
namespace Go.Proofs.YtljhklblbafjkaaGreatDoor
open Go.RowKit
namespace Code
attribute [local go_sem ↓] Go.wp_at_zero Go.wp_at_succ
set_option maxHeartbeats 1600000 in
theorem size_any(n:Int)(hn:B.In64 n)(w:World):Calls Tryz.prog 154 #[.int .i64 n] w fun e w'=>e= .returned (.int .u64 (n.natAbs:Int))∧w'=w:=by
 obtain⟨h1,h2⟩:=hn
 by_cases h:n<0
 ·have hc:(n<0)=True:=by simp[h]
  have h3:IntKind.u64.wrap n=n+18446744073709551616:=by rw[IntKind.wrap_u64];omega
  have h4:IntKind.u64.wrap (-(n+18446744073709551616))=(n.natAbs:Int):=by rw[IntKind.wrap_u64];omega
  go_enter Tryz.func154,Tryz.ntmps154;go_wp2_with fail;go_ret;exact⟨by simp[h4],rfl⟩
 ·have hc:(n<0)=False:=by simp[h]
  have h3:IntKind.u64.wrap n=(n.natAbs:Int):=by rw[IntKind.wrap_u64];omega
  go_enter Tryz.func154,Tryz.ntmps154;go_wp2_with fail;go_ret;exact⟨by simp,rfl⟩
set_option maxHeartbeats 1600000 in
theorem gcd_any(a b:Nat)(ha:a<18446744073709551616)(hb:b<18446744073709551616)(w:World):Calls Tryz.prog 153 #[.int .u64 (a:Int),.int .u64 (b:Int)] w fun e w'=>e= .returned (.int .u64 ((Nat.gcd b a:Nat):Int))∧∃n,w'=w.drewN n:=by
 obtain⟨g,hg⟩:∃g,Nat.gcd b a=g:=⟨_,rfl⟩;rw[hg];go_enter Tryz.func153,Tryz.ntmps153;go_wp2_with fail
 go_loopw [0,1] (fun s0 s1 wr=>∃x y n:Nat,s0= .int .u64 (x:Int)∧s1= .int .u64 (y:Int)∧wr=w.drewN n∧Hid (Nat.gcd y x=g)∧x<18446744073709551616∧y<18446744073709551616) (fun _ s1 _=>(intOf s1).toNat)
 case atStart=>exact⟨a,b,0,rfl,rfl,rfl,hd' hg,ha,hb⟩
 case round=>
  obtain⟨x,y,n,rfl,rfl,rfl,HG,hx,hy⟩:=hrel;clear hg
  by_cases h0:y=0
  ·subst h0
   have e0:((((0:Nat):Int)) !=0)=false:=by simp
   go_wp2_with fail;go_ret;have:=HG.out;rw[Nat.gcd_zero_left]at this;exact⟨by rw[←this];rfl,n,rfl⟩
  ·have e0:((y:Int) !=0)=true:=by simp[h0]
   have e1:((y:Int)==0)=false:=by simp[h0]
   have e2:(x:Int).tmod (y:Int)=((x%y:Nat):Int):=(Int.ofNat_tmod x y).symm;have hlt:x%y<y:=Nat.mod_lt _ (by omega);have HL:=hd' hlt
   go_upto_region 2 with fail
   go_quiet (fail)
   go_wp2_with fail;go_roundw
   case rel=>
    refine⟨y,x%y,n+nq,rfl,by simp[e2], ?_,hd' ?_,hy,by omega⟩
    ·exact World.drewN_drewN ..
    ·rw[←HG.out,Nat.gcd_rec y x]
   case measure=>
    simp[intOf];omega
def rtV(x:B.Rt):Value:=.agg #[.int .i64 x.num,.int .i64 x.den]
structure RtOk(x:B.Rt):Prop where
 num:B.In64 x.num
 den:B.In64 x.den
set_option maxRecDepth 100000 in
set_option maxHeartbeats 400000 in
theorem right_any2(x:B.Rt)(hx:RtOk x)(w:World):Calls Tryz.prog 120 #[rtV x] w fun e w'=>e= .returned (.bool x.right)∧Below w.heap.size w w':=by
 obtain⟨n,d⟩:=x;obtain⟨hn,hd⟩:=hx;simp only at hn hd;obtain⟨ans,hans⟩:∃ans,B.Rt.right ⟨n,d⟩=ans:=⟨_,rfl⟩;rw[hans];unfold B.Rt.right at hans;simp only at hans;have hs:=size_any n hn
 have hgc:∀w,Calls Tryz.prog 153 #[.int .u64 (n.natAbs:Int),.int .u64 (d.toNat:Int)] w fun e w'=>e= .returned (.int .u64 ((Nat.gcd d.toNat n.natAbs:Nat):Int))∧∃n,w'=w.drewN n:=by
  obtain⟨h1,h2⟩:=hn;obtain⟨h3,h4⟩:=hd;exact gcd_any n.natAbs d.toNat (by omega) (by omega)
 obtain⟨g,hg⟩:∃g,Nat.gcd d.toNat n.natAbs=g:=⟨_,rfl⟩;have hgg:decide (n.natAbs.gcd d.toNat=1)=decide (g=1):=decide_eq_decide.2 (by rw[Nat.gcd_comm,hg]);rw[hgg]at hans;rw[hg]at hgc;clear hg hgg;obtain⟨h3,h4⟩:=hd;obtain⟨a,ha⟩:∃a,n.natAbs=a:=⟨_,rfl⟩;obtain⟨b,hb⟩:∃b,d.toNat=b:=⟨_,rfl⟩;rw[ha]at hs hgc;rw[hb]at hgc;clear ha hn;unfold rtV;have hb1:=(Below.refl w.heap.size w).alloc (Nat.le_refl _) (.cells #[.int .i64 n,.int .i64 d] 68)
 by_cases h:1≤d
 ·have h5:IntKind.u64.wrap d=(b:Int):=by rw[IntKind.wrap_u64];omega
  clear hb
  have h6:(1≤d)=True:=by simp[h]
  have e1:decide (1≤d)=true:=by simp[h]
  have e2:(((g:Nat):Int)==1)=decide (g=1):=by rw[Bool.eq_iff_iff];simp;omega
  rw[e1,Bool.true_and]at hans;obtain⟨c,hc⟩:∃c,decide (g=1)=c:=⟨_,rfl⟩;rw[hc]at e2 hans;subst hans;clear hc h e1;go_enter Tryz.func120,Tryz.ntmps120
  go_upto_region 1 with fail
  go_quiet (first | (go_at_call 154;exact Calls.quiet_of_same (hs _)) | (go_at_call 153;exact Calls.quiet_of (hgc _)))
  go_wp2_with fail;go_ret;exact⟨rfl,belowN hb1 _⟩
 ·have h6:(1≤d)=False:=by simp[h]
  have e1:decide (1≤d)=false:=by simp[h]
  rw[e1,Bool.false_and]at hans;subst hans;clear h e1;go_enter Tryz.func120,Tryz.ntmps120
  go_upto_region 1 with fail
  go_quiet (fail)
  go_wp2_with fail;go_ret;exact⟨rfl,belowN hb1 _⟩
theorem mul64_any(x y:Nat)(hx:x<18446744073709551616)(hy:y<18446744073709551616)(w:World):
    Calls Tryz.prog 155 #[.int .u64 (x:Int),.int .u64 (y:Int)] w fun e w'=>e= .returned (.tuple #[.int .u64 ((x*y/18446744073709551616:Nat):Int),.int .u64 ((x*y%18446744073709551616:Nat):Int)])∧w'=w:=
 Any.bits_Mul64 Tryz.mul64 x y hx hy w
def CmpOut(up:Bool)(w:World)(e:Ending)(w':World):Prop:=∃c:Int,e= .returned (.tuple #[.int .i64 c,.nilIface])∧decide (0<c)=up∧Below w.heap.size w w'
theorem above_sign{a b:B.Rt}(ha:1≤a.den)(hb:1≤b.den):(a.num<0→¬b.num<0→a.above b=false)∧(¬a.num<0→b.num<0→a.above b=true)∧
    (a.num<0→b.num<0→a.above b=decide (a.num.natAbs*b.den.toNat<b.num.natAbs*a.den.toNat))∧(¬a.num<0→¬b.num<0→a.above b=decide (b.num.natAbs*a.den.toNat<a.num.natAbs*b.den.toNat)):=by
 obtain⟨n,d⟩:=a;obtain⟨m,c⟩:=b;unfold B.Rt.above;simp only at ha hb⊢
 have key:∀(z q:Int),1≤q→(z<0→z*q= -((z.natAbs*q.toNat:Nat):Int))∧(¬z<0→z*q=((z.natAbs*q.toNat:Nat):Int)):=by
  intro z q hq;obtain⟨k,rfl⟩:∃k:Nat,q=k:=⟨q.toNat,by omega⟩;rw[Int.toNat_natCast,Int.natCast_mul];constructor
  ·intro h
   have:z= -(z.natAbs:Int):=by omega
   rw[←Int.neg_mul,←this]
  ·intro h
   have:z=(z.natAbs:Int):=by omega
   rw[←this]
 have pos:∀(z q:Int),1≤q→z<0→0<z.natAbs*q.toNat:=fun z q hq hz=>Nat.mul_pos (by omega) (by omega)
 have k1:=key m d ha;have k2:=key n c hb;refine⟨fun h1 h2=> ?_,fun h1 h2=> ?_,fun h1 h2=> ?_,fun h1 h2=> ?_⟩
 ·have:=pos n c hb h1
  rw[k1.2 h2,k2.1 h1];exact decide_eq_false (by omega)
 ·have:=pos m d ha h2
  rw[k1.1 h2,k2.2 h1];exact decide_eq_true (by omega)
 ·rw[k1.1 h2,k2.1 h1]
  exact decide_eq_decide.2 (by omega)
 ·rw[k1.2 h2,k2.2 h1]
  exact decide_eq_decide.2 (by omega)
theorem hi_lo(x y:Nat):(x<y↔x/18446744073709551616<y/18446744073709551616∨(x/18446744073709551616=y/18446744073709551616∧x%18446744073709551616<y%18446744073709551616))∧(x=y↔x/18446744073709551616=y/18446744073709551616∧x%18446744073709551616=y%18446744073709551616):=by
 constructor<;>omega
set_option maxRecDepth 100000 in
set_option maxHeartbeats 6400000 in
theorem cmp_any(x y:B.Rt)(hx:RtOk x)(hy:RtOk y)(rx:x.right=true)(ry:y.right=true)(w:World):Calls Tryz.prog 121 #[rtV x,rtV y] w (CmpOut (x.above y) w):=by
 have hdx:1≤x.den:=by unfold B.Rt.right at rx;simp at rx;exact rx.1
 have hdy:1≤y.den:=by unfold B.Rt.right at ry;simp at ry;exact ry.1
 obtain⟨s1,s2,s3,s4⟩:=above_sign hdx hdy;obtain⟨up,hup⟩:∃up,x.above y=up:=⟨_,rfl⟩;rw[hup]at s1 s2 s3 s4⊢;clear hup
 have r1:∀w,Calls Tryz.prog 120 #[rtV x] w fun e w'=>e= .returned (.bool true)∧Below w.heap.size w w':=fun w=>by rw[←rx];exact right_any2 x hx w
 have r2:∀w,Calls Tryz.prog 120 #[rtV y] w fun e w'=>e= .returned (.bool true)∧Below w.heap.size w w':=fun w=>by rw[←ry];exact right_any2 y hy w
 obtain⟨n,d⟩:=x;obtain⟨m,c⟩:=y;obtain⟨hn,hd⟩:=hx;obtain⟨hm,hc⟩:=hy;unfold rtV at r1 r2⊢;simp only at*;have z1:=size_any n hn;have z2:=size_any m hm
 have w1:IntKind.u64.wrap d=(d.toNat:Int):=by rw[IntKind.wrap_u64];have:=hd.2;omega
 have w2:IntKind.u64.wrap c=(c.toNat:Int):=by rw[IntKind.wrap_u64];have:=hc.2;omega
 have m1:=mul64_any n.natAbs c.toNat (by have:=hn.1;have:=hn.2;omega) (by have:=hc.2;omega);have m2:=mul64_any m.natAbs d.toNat (by have:=hm.1;have:=hm.2;omega) (by have:=hd.2;omega);obtain⟨X,hX⟩:∃X,n.natAbs*c.toNat=X:=⟨_,rfl⟩;obtain⟨Y,hY⟩:∃Y,m.natAbs*d.toNat=Y:=⟨_,rfl⟩;rw[hX]at m1 s3 s4;rw[hY]at m2 s3 s4;clear hX hY rx ry hdx hdy;obtain⟨l1,l2⟩:=hi_lo X Y;obtain⟨l3,_⟩:=hi_lo Y X;obtain⟨H,hH⟩:∃H,X/18446744073709551616=H:=⟨_,rfl⟩;obtain⟨I,hI⟩:∃H,Y/18446744073709551616=H:=⟨_,rfl⟩;obtain⟨L,hL⟩:∃H,X%18446744073709551616=H:=⟨_,rfl⟩;obtain⟨M,hM⟩:∃H,Y%18446744073709551616=H:=⟨_,rfl⟩;rw[hH,hL]at m1;rw[hI,hM]at m2;rw[hH,hI,hL,hM]at l1 l2 l3;have S1:=hd' s1;have S2:=hd' s2;have S3:=hd' s3;have S4:=hd' s4;have L1:=hd' l1;have L3:=hd' l3;clear hH hI hL hM s1 s2 s3 s4 l1 l2 l3 hn hd hm hc;obtain⟨a1,ha1⟩:∃a,n.natAbs=a:=⟨_,rfl⟩;obtain⟨a2,ha2⟩:∃a,m.natAbs=a:=⟨_,rfl⟩;obtain⟨b1,hb1⟩:∃a,d.toNat=a:=⟨_,rfl⟩
 obtain⟨b2,hb2⟩:∃a,c.toNat=a:=⟨_,rfl⟩;rw[ha1]at z1 m1;rw[ha2]at z2 m2;rw[hb1]at w1 m2;rw[hb2]at w2 m1;clear ha1 ha2 hb1 hb2;have hbel:Hid (Below w.heap.size w ((w.alloc (.cells #[.int .i64 n,.int .i64 d] 68)).alloc (.cells #[.int .i64 m,.int .i64 c] 68))):=hd' (((Below.refl _ _).alloc (Nat.le_refl _) _).alloc (by simp) _);obtain⟨v0,hv0⟩:∃v,(w.alloc (.cells #[.int .i64 n,.int .i64 d] 68)).alloc (.cells #[.int .i64 m,.int .i64 c] 68)=v:=⟨_,rfl⟩
 have c0:v0.cell? ⟨w.heap.size,0,none⟩=some (.int .i64 n):=by rw[←hv0,World.cell?_alloc2_first];rfl
 have c1:v0.cell? ⟨w.heap.size,1,none⟩=some (.int .i64 d):=by rw[←hv0,World.cell?_alloc2_first];rfl
 have d0:v0.cell? ⟨w.heap.size+1,0,none⟩=some (.int .i64 m):=by rw[←hv0,World.cell?_alloc2_new];rfl
 have d1:v0.cell? ⟨w.heap.size+1,1,none⟩=some (.int .i64 c):=by rw[←hv0,World.cell?_alloc2_new];rfl
 have hz0:v0.heap.size=w.heap.size+1+1:=by rw[←hv0];simp
 rw[hv0]at hbel;go_enter Tryz.func121,Tryz.ntmps121
 go_upto_region 1 with fail
 try rw[hv0]
 clear hv0;have HZ0:=hd' hz0;clear hz0;go_wp2_with fail;refine(r1 v0).mono ?_;rintro e v1 ⟨rfl,hb1⟩;have hz1:=hb1.size;have HB1:=hd' (hbel.out.trans (hb1.mono (by rw[HZ0.out];omega)));replace c0:=(hb1.cell (p:=⟨w.heap.size,0,none⟩) (by rw[HZ0.out];simp;omega)).trans c0;replace c1:=(hb1.cell (p:=⟨w.heap.size,1,none⟩) (by rw[HZ0.out];simp;omega)).trans c1;replace d0:=(hb1.cell (p:=⟨w.heap.size+1,0,none⟩) (by rw[HZ0.out];simp)).trans d0;replace d1:=(hb1.cell (p:=⟨w.heap.size+1,1,none⟩) (by rw[HZ0.out];simp)).trans d1;rw[HZ0.out]at hz1;have HZ1:=hd' hz1;clear hz1 hb1 r1;go_wp2_with fail;refine(r2 v1).mono ?_;rintro e v2 ⟨rfl,hb2⟩;have HB2:=hd' (HB1.out.trans (hb2.mono (by have:=HZ1.out;omega)));have hz1:=HZ1.out;replace c0:=(hb2.cell (p:=⟨w.heap.size,0,none⟩) (by simp;omega)).trans c0;replace c1:=(hb2.cell (p:=⟨w.heap.size,1,none⟩) (by simp;omega)).trans c1
 replace d0:=(hb2.cell (p:=⟨w.heap.size+1,0,none⟩) (by simp;omega)).trans d0;replace d1:=(hb2.cell (p:=⟨w.heap.size+1,1,none⟩) (by simp;omega)).trans d1;have hz2:=hb2.size;have HZ2:Hid (w.heap.size+1+1≤v2.heap.size):=hd' (by omega);clear hz1 hz2 hb2 r2;clear HZ0 HZ1 HB1 hbel
 by_cases hn:n<0
 ·have q1:(n<0)=True:=by simp[hn]
  by_cases hm:m<0
  ·have q2:(m<0)=True:=by simp[hm]
   have s3:=S3.out (by omega) (by omega);clear hn hm
   go_upto_region 7 with fail
   go_quiet (first | (go_at_call 154;exact Calls.quiet_of_same (z1 _)) | (go_at_call 155;exact Calls.quiet_of_same (m1 _)))
   obtain⟨v3,hv3⟩:∃v,v2.drewN nq=v:=⟨_,rfl⟩
   have hb3:Below v2.heap.size v2 v3:=by rw[←hv3];exact belowN (Below.refl _ _) nq
   rw[hv3];have HB3:=hd' (HB2.out.trans (hb3.mono (by have:=HZ2.out;omega)));have hz2:=HZ2.out;replace c0:=(hb3.cell (p:=⟨w.heap.size,0,none⟩) (by simp;omega)).trans c0;replace c1:=(hb3.cell (p:=⟨w.heap.size,1,none⟩) (by simp;omega)).trans c1;replace d0:=(hb3.cell (p:=⟨w.heap.size+1,0,none⟩) (by simp;omega)).trans d0;replace d1:=(hb3.cell (p:=⟨w.heap.size+1,1,none⟩) (by simp;omega)).trans d1;have HZ3:Hid (w.heap.size+1+1≤v3.heap.size):=hd' (by have:=hb3.size;omega);clear hv3 hb3 hz2 z1 m1 HB2 HZ2
   go_upto_region 8 with fail
   go_quiet (first | (go_at_call 154;exact Calls.quiet_of_same (z2 _)) | (go_at_call 155;exact Calls.quiet_of_same (m2 _)))
   obtain⟨v4,hv4⟩:∃v,v3.drewN nq=v:=⟨_,rfl⟩
   have hb4:Below w.heap.size w v4:=by rw[←hv4];exact belowN HB3.out nq
   rw[hv4];have HB4:=hd' hb4;replace c0:=(show v4.cell? ⟨w.heap.size,0,none⟩=some (.int .i64 n)from by rw[←hv4];exact((belowN (Below.refl v3.heap.size v3) nq).cell (p:=⟨w.heap.size,0,none⟩) (by have:=HZ3.out;simp;omega)).trans c0);clear hv4 hb4 z2 m2 HB3 c1 d0 d1;have l1:=L1.out;have l3:=L3.out;rcases Nat.lt_trichotomy H I with h | h | h
   ·have t1:((H:Int)<(I:Int))=True:=by simp;omega
    have t2:((H:Int)==(I:Int))=false:=by simp;omega
    have su:up=true:=by
     rw[s3];exact decide_eq_true (l1.2 (.inl h))
    clear h l1 l3 s3;go_wp2_with fail;go_ret2;exact⟨1,rfl,by first | rfl | (rw[su];rfl),HB4.out⟩
   ·subst h
    have t1:((H:Int)<(H:Int))=False:=by simp
    have t2:((H:Int)==(H:Int))=true:=by simp
    rcases Nat.lt_trichotomy L M with h | h | h
    ·have t3:((L:Int)<(M:Int))=True:=by simp;omega
     have t4:((L:Int)==(M:Int))=false:=by simp;omega
     have su:up=true:=by
      rw[s3];exact decide_eq_true (l1.2 (.inr ⟨rfl,h⟩))
     clear h l1 l3 s3;go_wp2_with fail;go_ret2;exact⟨1,rfl,by first | rfl | (rw[su];rfl),HB4.out⟩
    ·subst h
     have t3:((L:Int)<(L:Int))=False:=by simp
     have t4:((L:Int)==(L:Int))=true:=by simp
     have su:up=false:=by
      rw[s3];exact decide_eq_false (fun g=>by first | (have:=l3.1 g;omega) | (have:=l1.1 g;omega))
     clear l1 l3 s3;go_wp2_with fail;go_ret2;exact⟨0,rfl,by first | rfl | (rw[su];rfl),HB4.out⟩
    ·have t3:((L:Int)<(M:Int))=False:=by simp;omega
     have t4:((L:Int)==(M:Int))=false:=by simp;omega
     have su:up=false:=by
      rw[s3];exact decide_eq_false (fun g=>by have:=l1.1 g;omega)
     clear h l1 l3 s3;go_wp2_with fail;go_ret2;exact⟨-1,rfl,by first | rfl | (rw[su];rfl),HB4.out⟩
   ·have t1:((H:Int)<(I:Int))=False:=by simp;omega
    have t2:((H:Int)==(I:Int))=false:=by simp;omega
    have su:up=false:=by
     rw[s3];exact decide_eq_false (fun g=>by have:=l1.1 g;omega)
    clear h l1 l3 s3;go_wp2_with fail;go_ret2;exact⟨-1,rfl,by first | rfl | (rw[su];rfl),HB4.out⟩
  ·have q2:(m<0)=False:=by simp[hm]
   have s1:=S1.out (by omega) (by omega);clear hn hm;go_wp2_with fail;go_ret2;exact⟨-1,rfl,by rw[s1];rfl,HB2.out⟩
 ·have q1:(n<0)=False:=by simp[hn]
  by_cases hm:m<0
  ·have q2:(m<0)=True:=by simp[hm]
   have s2:=S2.out (by omega) (by omega);clear hn hm;go_wp2_with fail;go_ret2;exact⟨1,rfl,by rw[s2];rfl,HB2.out⟩
  ·have q2:(m<0)=False:=by simp[hm]
   have s4:=S4.out (by omega) (by omega);clear hn hm
   go_upto_region 7 with fail
   go_quiet (first | (go_at_call 154;exact Calls.quiet_of_same (z1 _)) | (go_at_call 155;exact Calls.quiet_of_same (m1 _)))
   obtain⟨v3,hv3⟩:∃v,v2.drewN nq=v:=⟨_,rfl⟩
   have hb3:Below v2.heap.size v2 v3:=by rw[←hv3];exact belowN (Below.refl _ _) nq
   rw[hv3];have HB3:=hd' (HB2.out.trans (hb3.mono (by have:=HZ2.out;omega)));have hz2:=HZ2.out;replace c0:=(hb3.cell (p:=⟨w.heap.size,0,none⟩) (by simp;omega)).trans c0;replace c1:=(hb3.cell (p:=⟨w.heap.size,1,none⟩) (by simp;omega)).trans c1;replace d0:=(hb3.cell (p:=⟨w.heap.size+1,0,none⟩) (by simp;omega)).trans d0;replace d1:=(hb3.cell (p:=⟨w.heap.size+1,1,none⟩) (by simp;omega)).trans d1;have HZ3:Hid (w.heap.size+1+1≤v3.heap.size):=hd' (by have:=hb3.size;omega);clear hv3 hb3 hz2 z1 m1 HB2 HZ2
   go_upto_region 8 with fail
   go_quiet (first | (go_at_call 154;exact Calls.quiet_of_same (z2 _)) | (go_at_call 155;exact Calls.quiet_of_same (m2 _)))
   obtain⟨v4,hv4⟩:∃v,v3.drewN nq=v:=⟨_,rfl⟩
   have hb4:Below w.heap.size w v4:=by rw[←hv4];exact belowN HB3.out nq
   rw[hv4];have HB4:=hd' hb4;replace c0:=(show v4.cell? ⟨w.heap.size,0,none⟩=some (.int .i64 n)from by rw[←hv4];exact((belowN (Below.refl v3.heap.size v3) nq).cell (p:=⟨w.heap.size,0,none⟩) (by have:=HZ3.out;simp;omega)).trans c0);clear hv4 hb4 z2 m2 HB3 c1 d0 d1;have l1:=L1.out;have l3:=L3.out;rcases Nat.lt_trichotomy H I with h | h | h
   ·have t1:((H:Int)<(I:Int))=True:=by simp;omega
    have t2:((H:Int)==(I:Int))=false:=by simp;omega
    have su:up=false:=by
     rw[s4];exact decide_eq_false (fun g=>by have:=l3.1 g;omega)
    clear h l1 l3 s4;go_wp2_with fail;go_ret2;exact⟨-1,rfl,by first | rfl | (rw[su];rfl),HB4.out⟩
   ·subst h
    have t1:((H:Int)<(H:Int))=False:=by simp
    have t2:((H:Int)==(H:Int))=true:=by simp
    rcases Nat.lt_trichotomy L M with h | h | h
    ·have t3:((L:Int)<(M:Int))=True:=by simp;omega
     have t4:((L:Int)==(M:Int))=false:=by simp;omega
     have su:up=false:=by
      rw[s4];exact decide_eq_false (fun g=>by have:=l3.1 g;omega)
     clear h l1 l3 s4;go_wp2_with fail;go_ret2;exact⟨-1,rfl,by first | rfl | (rw[su];rfl),HB4.out⟩
    ·subst h
     have t3:((L:Int)<(L:Int))=False:=by simp
     have t4:((L:Int)==(L:Int))=true:=by simp
     have su:up=false:=by
      rw[s4];exact decide_eq_false (fun g=>by first | (have:=l3.1 g;omega) | (have:=l1.1 g;omega))
     clear l1 l3 s4;go_wp2_with fail;go_ret2;exact⟨0,rfl,by first | rfl | (rw[su];rfl),HB4.out⟩
    ·have t3:((L:Int)<(M:Int))=False:=by simp;omega
     have t4:((L:Int)==(M:Int))=false:=by simp;omega
     have su:up=true:=by
      rw[s4];exact decide_eq_true (l3.2 (.inr ⟨rfl,h⟩))
     clear h l1 l3 s4;go_wp2_with fail;go_ret2;exact⟨1,rfl,by first | rfl | (rw[su];rfl),HB4.out⟩
   ·have t1:((H:Int)<(I:Int))=False:=by simp;omega
    have t2:((H:Int)==(I:Int))=false:=by simp;omega
    have su:up=true:=by
     rw[s4];exact decide_eq_true (l3.2 (.inl h))
    clear h l1 l3 s4;go_wp2_with fail;go_ret2;exact⟨1,rfl,by first | rfl | (rw[su];rfl),HB4.out⟩
end Code
end Go.Proofs.YtljhklblbafjkaaGreatDoor
