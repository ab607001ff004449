/- The document's answer for layers 3 and 9: a control; a name; a word. -/
import Derived.Test.YtljhklblbafjkaaGreatDoorNcX
import Derived.Test.YtljhklblbafjkaaGreatDoorUnQ
open Go.Lib renaming hid→hd'
namespace Go.Proofs.YtljhklblbafjkaaGreatDoor
open Go.RowKit
namespace Code
attribute [local go_sem ↓] Go.wp_at_zero Go.wp_at_succ
theorem control_any(r:Nat)(w:World):Calls Tryz.prog 93 #[.int .i32 (r:Int)] w (fun e w'=>e= .returned (.bool (B.controlR r))∧w=w'):=by
 unfold B.controlR
 by_cases h1:r<32
 ·have z1:((r:Int)<32)=True:=by simp;omega
  rw[decide_eq_true h1,Bool.true_or];clear h1;go_enter Tryz.func93,Tryz.ntmps93;go_wp2_with fail;go_ret;exact⟨rfl,rfl⟩
 ·have z1:((r:Int)<32)=False:=by simp;omega
  have z2:((r:Int)==127)=decide (r=127):=by rw[Bool.eq_iff_iff];simp;omega
  rw[decide_eq_false h1,Bool.false_or];clear h1;go_enter Tryz.func93,Tryz.ntmps93;go_wp2_with fail;go_ret;exact⟨rfl,rfl⟩
theorem nameNext{s:ByteArray}{k:Nat}(h:∀i,i<k→B.nameAt s i=true)(hk:B.nameAt s k=true):∀i,i<k+1→B.nameAt s i=true:=fun i hi=>by
 rcases Nat.lt_or_ge i k with h1 | h1
 ·exact h i h1
 ·obtain rfl:i=k:=by omega
  exact hk
set_option maxRecDepth 100000 in
set_option maxHeartbeats 3200000 in
theorem rname_any(s:ByteArray)(w:World)(hs:s.size≤9223372036854775807):
    Calls Tryz.prog 86 #[.string s] w (fun e w'=>e= .returned (.bool (B.nameOk s))∧w=w'):=by
 obtain⟨ans,hans⟩:∃ans,B.nameOk s=ans:=⟨_,rfl⟩;rw[hans];have HA:=hd' hans;clear hans
 by_cases h1:s.size<1
 ·have e1:((s.size:Int)<1)=True:=by simp;omega
  have ha:B.nameOk s=false:=by unfold B.nameOk;rw[decide_eq_false (by omega),Bool.and_false]
  have HE:=hd' (HA.out.symm.trans ha);clear h1 ha;go_enter Tryz.func86,Tryz.ntmps86;go_wp2_with fail;go_ret;exact⟨by rw[HE.out];rfl,rfl⟩
 ·have e1:((s.size:Int)<1)=False:=by simp;omega
  by_cases h2:64<s.size
  ·have e2:((64:Int)<(s.size:Int))=True:=by simp;omega
   have ha:B.nameOk s=false:=by unfold B.nameOk;rw[decide_eq_false (by omega),Bool.and_false]
   have HE:=hd' (HA.out.symm.trans ha);clear h1 h2 ha;go_enter Tryz.func86,Tryz.ntmps86;go_wp2_with fail;go_ret;exact⟨by rw[HE.out];rfl,rfl⟩
  ·have e2:((64:Int)<(s.size:Int))=False:=by simp;omega
   have HSZ:Hid (1≤s.size∧s.size≤64):=hd' ⟨by omega,by omega⟩
   have hs64:s.size≤64:=by omega
   clear h1 h2;go_enter Tryz.func86,Tryz.ntmps86;go_wp2_with fail
   go_loop [3] (fun i=>∃k:Nat,k≤s.size∧i= .int .i64 (k:Int)∧Hid (∀j,j<k→B.nameAt s j=true)) (fun i=>s.size-(intOf i).toNat)
   case atStart=>exact⟨0,Nat.zero_le _,rfl,hd' (fun j h=>by omega)⟩
   case round=>
    obtain⟨k,hk,rfl,HI⟩:=hrel
    by_cases hlt:k<s.size
    ·have e3:((k:Int)<(s.size:Int))=True:=by simp;omega
     have q0:(0:Int)≤(k:Int):=by omega
     have HLT:=hd' hlt;have hgb:=get_bang s k hlt;have HGB:=hd' hgb;clear hgb
     go_upto_region 7 with fail
     obtain⟨c,hcc⟩:∃c,(s[k]'hlt).toNat=c:=⟨_,rfl⟩;rw[hcc]
     have hc:c<256:=by rw[←hcc];exact(s[k]'hlt).toNat_lt
     have HAT:Hid (B.nameAt s k=(B.letterB c||(!decide (k=0)&&B.digitB c))):=hd' (by unfold B.nameAt;rw[HGB.out,hcc]);clear hcc
     have hr:c≤47∨(48≤c∧c≤57)∨(58≤c∧c≤64)∨(65≤c∧c≤90)∨(91≤c∧c≤94)∨c=95∨c=96∨(97≤c∧c≤122)∨123≤c:=by omega
     rcases hr with hr | hr | hr | hr | hr | hr | hr | hr | hr
     ·have g97:((c:Int)≥97)=False:=by simp;omega
      have l122:((c:Int)≤122)=True:=by simp;omega
      have g65:((c:Int)≥65)=False:=by simp;omega
      have l90:((c:Int)≤90)=True:=by simp;omega
      have l48:((c:Int)<48)=True:=by simp;omega
      have g57:((57:Int)<c)=False:=by simp;omega
      have q95:((c:Int)==95)=false:=by simp;omega
      have hd:B.letterB c=false:=by unfold B.letterB;simp;omega
      have HLF:=hd' hd;clear hd
      by_cases h0:k=0
      ·have z0:((k:Int)==0)=true:=by simp[h0]
       have hat:B.nameAt s k=false:=by rw[HAT.out,HLF.out];unfold B.digitB;simp;omega
       have HA1:=hd' (HA.out.symm.trans (nameOk_no HLT.out hat));clear hat hc h0;go_wp2_with fail;go_ret;exact⟨by rw[HA1.out];rfl,rfl⟩
      ·have z0:((k:Int)==0)=false:=by simp[h0]
       have hat:B.nameAt s k=false:=by rw[HAT.out,HLF.out];unfold B.digitB;simp;omega
       have HA1:=hd' (HA.out.symm.trans (nameOk_no HLT.out hat));clear hat hc h0;go_wp2_with fail;go_ret;exact⟨by rw[HA1.out];rfl,rfl⟩
     ·have g97:((c:Int)≥97)=False:=by simp;omega
      have l122:((c:Int)≤122)=True:=by simp;omega
      have g65:((c:Int)≥65)=False:=by simp;omega
      have l90:((c:Int)≤90)=True:=by simp;omega
      have l48:((c:Int)<48)=False:=by simp;omega
      have g57:((57:Int)<c)=False:=by simp;omega
      have q95:((c:Int)==95)=false:=by simp;omega
      have hd:B.letterB c=false:=by unfold B.letterB;simp;omega
      have HLF:=hd' hd;clear hd
      by_cases h0:k=0
      ·have z0:((k:Int)==0)=true:=by simp[h0]
       have hat:B.nameAt s k=false:=by rw[HAT.out,HLF.out];simp[h0]
       have HA1:=hd' (HA.out.symm.trans (nameOk_no HLT.out hat));clear hat hc h0;go_wp2_with fail;go_ret;exact⟨by rw[HA1.out];rfl,rfl⟩
      ·have z0:((k:Int)==0)=false:=by simp[h0]
       have hat:B.nameAt s k=true:=by rw[HAT.out,HLF.out];unfold B.digitB;simp[h0];omega
       have HA1:=hd' hat;clear hat hc h0;go_wp2_with fail
       go_round
       case rel=>exact⟨k+1,HLT.out,by go_num,hd' (nameNext HI.out HA1.out)⟩
       case measure=>simp[intOf];omega
     ·have g97:((c:Int)≥97)=False:=by simp;omega
      have l122:((c:Int)≤122)=True:=by simp;omega
      have g65:((c:Int)≥65)=False:=by simp;omega
      have l90:((c:Int)≤90)=True:=by simp;omega
      have l48:((c:Int)<48)=False:=by simp;omega
      have g57:((57:Int)<c)=True:=by simp;omega
      have q95:((c:Int)==95)=false:=by simp;omega
      have hd:B.letterB c=false:=by unfold B.letterB;simp;omega
      have HLF:=hd' hd;clear hd
      by_cases h0:k=0
      ·have z0:((k:Int)==0)=true:=by simp[h0]
       have hat:B.nameAt s k=false:=by rw[HAT.out,HLF.out];unfold B.digitB;simp;omega
       have HA1:=hd' (HA.out.symm.trans (nameOk_no HLT.out hat));clear hat hc h0;go_wp2_with fail;go_ret;exact⟨by rw[HA1.out];rfl,rfl⟩
      ·have z0:((k:Int)==0)=false:=by simp[h0]
       have hat:B.nameAt s k=false:=by rw[HAT.out,HLF.out];unfold B.digitB;simp;omega
       have HA1:=hd' (HA.out.symm.trans (nameOk_no HLT.out hat));clear hat hc h0;go_wp2_with fail;go_ret;exact⟨by rw[HA1.out];rfl,rfl⟩
     ·have g97:((c:Int)≥97)=False:=by simp;omega
      have l122:((c:Int)≤122)=True:=by simp;omega
      have g65:((c:Int)≥65)=True:=by simp;omega
      have l90:((c:Int)≤90)=True:=by simp;omega
      have l48:((c:Int)<48)=False:=by simp;omega
      have g57:((57:Int)<c)=True:=by simp;omega
      have q95:((c:Int)==95)=false:=by simp;omega
      have hat:B.nameAt s k=true:=by rw[HAT.out];unfold B.letterB;simp;omega
      have HA1:=hd' hat;clear hat hc;go_wp2_with fail
      go_round
      case rel=>exact⟨k+1,HLT.out,by go_num,hd' (nameNext HI.out HA1.out)⟩
      case measure=>simp[intOf];omega
     ·have g97:((c:Int)≥97)=False:=by simp;omega
      have l122:((c:Int)≤122)=True:=by simp;omega
      have g65:((c:Int)≥65)=True:=by simp;omega
      have l90:((c:Int)≤90)=False:=by simp;omega
      have l48:((c:Int)<48)=False:=by simp;omega
      have g57:((57:Int)<c)=True:=by simp;omega
      have q95:((c:Int)==95)=false:=by simp;omega
      have hd:B.letterB c=false:=by unfold B.letterB;simp;omega
      have HLF:=hd' hd;clear hd
      by_cases h0:k=0
      ·have z0:((k:Int)==0)=true:=by simp[h0]
       have hat:B.nameAt s k=false:=by rw[HAT.out,HLF.out];unfold B.digitB;simp;omega
       have HA1:=hd' (HA.out.symm.trans (nameOk_no HLT.out hat));clear hat hc h0;go_wp2_with fail;go_ret;exact⟨by rw[HA1.out];rfl,rfl⟩
      ·have z0:((k:Int)==0)=false:=by simp[h0]
       have hat:B.nameAt s k=false:=by rw[HAT.out,HLF.out];unfold B.digitB;simp;omega
       have HA1:=hd' (HA.out.symm.trans (nameOk_no HLT.out hat));clear hat hc h0;go_wp2_with fail;go_ret;exact⟨by rw[HA1.out];rfl,rfl⟩
     ·have g97:((c:Int)≥97)=False:=by simp;omega
      have l122:((c:Int)≤122)=True:=by simp;omega
      have g65:((c:Int)≥65)=True:=by simp;omega
      have l90:((c:Int)≤90)=False:=by simp;omega
      have l48:((c:Int)<48)=False:=by simp;omega
      have g57:((57:Int)<c)=True:=by simp;omega
      have q95:((c:Int)==95)=true:=by simp;omega
      have hat:B.nameAt s k=true:=by rw[HAT.out];unfold B.letterB;simp;omega
      have HA1:=hd' hat;clear hat hc;go_wp2_with fail
      go_round
      case rel=>exact⟨k+1,HLT.out,by go_num,hd' (nameNext HI.out HA1.out)⟩
      case measure=>simp[intOf];omega
     ·have g97:((c:Int)≥97)=False:=by simp;omega
      have l122:((c:Int)≤122)=True:=by simp;omega
      have g65:((c:Int)≥65)=True:=by simp;omega
      have l90:((c:Int)≤90)=False:=by simp;omega
      have l48:((c:Int)<48)=False:=by simp;omega
      have g57:((57:Int)<c)=True:=by simp;omega
      have q95:((c:Int)==95)=false:=by simp;omega
      have hd:B.letterB c=false:=by unfold B.letterB;simp;omega
      have HLF:=hd' hd;clear hd
      by_cases h0:k=0
      ·have z0:((k:Int)==0)=true:=by simp[h0]
       have hat:B.nameAt s k=false:=by rw[HAT.out,HLF.out];unfold B.digitB;simp;omega
       have HA1:=hd' (HA.out.symm.trans (nameOk_no HLT.out hat));clear hat hc h0;go_wp2_with fail;go_ret;exact⟨by rw[HA1.out];rfl,rfl⟩
      ·have z0:((k:Int)==0)=false:=by simp[h0]
       have hat:B.nameAt s k=false:=by rw[HAT.out,HLF.out];unfold B.digitB;simp;omega
       have HA1:=hd' (HA.out.symm.trans (nameOk_no HLT.out hat));clear hat hc h0;go_wp2_with fail;go_ret;exact⟨by rw[HA1.out];rfl,rfl⟩
     ·have g97:((c:Int)≥97)=True:=by simp;omega
      have l122:((c:Int)≤122)=True:=by simp;omega
      have g65:((c:Int)≥65)=True:=by simp;omega
      have l90:((c:Int)≤90)=False:=by simp;omega
      have l48:((c:Int)<48)=False:=by simp;omega
      have g57:((57:Int)<c)=True:=by simp;omega
      have q95:((c:Int)==95)=false:=by simp;omega
      have hat:B.nameAt s k=true:=by rw[HAT.out];unfold B.letterB;simp;omega
      have HA1:=hd' hat;clear hat hc;go_wp2_with fail
      go_round
      case rel=>exact⟨k+1,HLT.out,by go_num,hd' (nameNext HI.out HA1.out)⟩
      case measure=>simp[intOf];omega
     ·have g97:((c:Int)≥97)=True:=by simp;omega
      have l122:((c:Int)≤122)=False:=by simp;omega
      have g65:((c:Int)≥65)=True:=by simp;omega
      have l90:((c:Int)≤90)=False:=by simp;omega
      have l48:((c:Int)<48)=False:=by simp;omega
      have g57:((57:Int)<c)=True:=by simp;omega
      have q95:((c:Int)==95)=false:=by simp;omega
      have hd:B.letterB c=false:=by unfold B.letterB;simp;omega
      have HLF:=hd' hd;clear hd
      by_cases h0:k=0
      ·have z0:((k:Int)==0)=true:=by simp[h0]
       have hat:B.nameAt s k=false:=by rw[HAT.out,HLF.out];unfold B.digitB;simp;omega
       have HA1:=hd' (HA.out.symm.trans (nameOk_no HLT.out hat));clear hat hc h0;go_wp2_with fail;go_ret;exact⟨by rw[HA1.out];rfl,rfl⟩
      ·have z0:((k:Int)==0)=false:=by simp[h0]
       have hat:B.nameAt s k=false:=by rw[HAT.out,HLF.out];unfold B.digitB;simp;omega
       have HA1:=hd' (HA.out.symm.trans (nameOk_no HLT.out hat));clear hat hc h0;go_wp2_with fail;go_ret;exact⟨by rw[HA1.out];rfl,rfl⟩
    ·obtain rfl:k=s.size:=by omega
     have e3:((s.size:Int)<(s.size:Int))=False:=by simp
     have ha:=nameOk_end HI.out;rw[decide_eq_true HSZ.out]at ha;have HE:=hd' (HA.out.symm.trans ha);clear ha;go_wp2_with fail;go_ret;exact⟨by rw[HE.out];rfl,rfl⟩
set_option maxHeartbeats 3200000 in
theorem rword_any(s:ByteArray)(w:World)(hs:s.size≤9223372036854775807):
    Calls Tryz.prog 57 #[.string s] w (fun e w'=>e= .returned (.bool (B.wordOk s))∧w=w'):=by
 have hn:=rname_any s w hs
 have hans:B.wordOk s=(!((s.toList==[86,69,82,83,73,79,78])||(s.toList==[66,85,95])||(s.toList==[66,79,95])||(s.toList==[83,71,95])||(s.toList==[86,65,76,95])||(s.toList==[67,77,95]))&&B.nameOk s):=by
  unfold B.wordOk;rw[kept_any]
 obtain⟨nk,hnk⟩:∃nk,B.nameOk s=nk:=⟨_,rfl⟩;rw[hnk]at hn hans;clear hnk;obtain⟨k1,h1⟩:∃k,(s.toList==[86,69,82,83,73,79,78])=k:=⟨_,rfl⟩;obtain⟨k2,h2⟩:∃k,(s.toList==[66,85,95])=k:=⟨_,rfl⟩;obtain⟨k3,h3⟩:∃k,(s.toList==[66,79,95])=k:=⟨_,rfl⟩;obtain⟨k4,h4⟩:∃k,(s.toList==[83,71,95])=k:=⟨_,rfl⟩;obtain⟨k5,h5⟩:∃k,(s.toList==[86,65,76,95])=k:=⟨_,rfl⟩;obtain⟨k6,h6⟩:∃k,(s.toList==[67,77,95])=k:=⟨_,rfl⟩;rw[h1,h2,h3,h4,h5,h6]at hans;rw[hans];clear hans
 cases nk with
 | false=>
  clear h1 h2 h3 h4 h5 h6;go_enter Tryz.func57,Tryz.ntmps57;go_wp2_with (go_at_call 86;refine hn.mono ?_;rintro e w2 ⟨rfl,rfl⟩);go_ret;exact⟨by simp,rfl⟩
 | true=>
  rcases @split6 k1 k2 k3 k4 k5 k6 with rfl | ⟨rfl,rfl⟩ | ⟨rfl,rfl,rfl⟩ | ⟨rfl,rfl,rfl,rfl⟩ | ⟨rfl,rfl,rfl,rfl,rfl⟩ | ⟨rfl,rfl,rfl,rfl,rfl,rfl⟩ | ⟨rfl,rfl,rfl,rfl,rfl,rfl⟩
  all_goals go_enter Tryz.func57,Tryz.ntmps57
  all_goals go_wp2_with (go_at_call 86;refine hn.mono ?_;rintro e w2 ⟨rfl,rfl⟩)
  all_goals go_ret
  all_goals exact⟨by simp,rfl⟩
end Code
end Go.Proofs.YtljhklblbafjkaaGreatDoor
namespace Go.Proofs.YtljhklblbafjkaaGreatDoor
open Go.RowKit
namespace B
theorem unitsF_end(s:ByteArray){pos:Nat}(h:¬pos<s.size):∀f,unitsF s f pos=[]
 | 0=>rfl
 | f+1=>by unfold unitsF;rw[if_neg h]
theorem unitsF_step(s:ByteArray){f pos:Nat}(h:pos<s.size)(hf:s.size≤f+pos):∃g,f=g+1∧unitsF s f pos=((Utf8.decode s pos).1,illAt s pos)::unitsF s g (pos+(Utf8.decode s pos).2):=by
 cases f with
 | zero=>omega
 | succ g=>exact⟨g,rfl,by show(if pos<s.size then _ else _)=_;rw[if_pos h]⟩
end B
namespace Code
attribute [local go_sem ↓] Go.wp_at_zero Go.wp_at_succ
structure Un where
 line:Int
 col:Int
 r:Nat
 wide:Int
 ill:Bool
def cellsU(u:Un):List Value:=[.int .i64 u.line,.int .i64 u.col,.int .i32 (u.r:Int),.int .i64 u.wide,.bool u.ill]
theorem cellsU_get:∀(U:List Un) (i:Nat) (x:Un),U[i]? =some x→∀j,j<5→(U.flatMap cellsU)[i*5+j]? =(cellsU x)[j]? :=by
 intro U
 induction U with
 | nil=>intro i x h;simp at h
 | cons y l ih=>
  intro i x h j hj;rw[List.flatMap_cons];have hl:(cellsU y).length=5:=rfl
  cases i with
  | zero=>
   simp at h;subst h;rw[List.getElem?_append_left (by rw[hl];omega)];congr 1;omega
  | succ i=>
   rw[List.getElem?_append_right (by rw[hl];omega),hl];rw[show(i+1)*5+j-5=i*5+j by omega];exact ih i x (by simpa using h) j hj
theorem infoUn:(Tryz.prog.info? 159).map (fun i=>(i.zero,i.size,i.bytes))=some (some (.agg #[.int .i64 0,.int .i64 0,.int .i32 0,.int .i64 0,.bool false]),5,40):=by kernel_rfl
theorem run_runeString(r:Int)(w:World):(convert 21 9 (.int .i32 r)).run Tryz.prog w= .ok (.string (Utf8.encode r)) w:=by
 simp[convert,run_underlying Tryz.underlying21,run_underlying Tryz.underlying9,Conv.intToString,Result.andThen]
def unitR(u:Un):Nat×Bool:=(u.r,u.ill)
def UnitsOut(L:List (Nat×Bool))(w:World)(e:Ending)(w':World):Prop:=∃(ao:Option Addr) (n cap:Nat) (U:List Un),e= .returned (.slice ao n cap)∧n=U.length∧w'.ownsRow w.heap.size 159 5 (.slice ao n cap) n (U.flatMap cellsU)∧U.map unitR=L∧Below w.heap.size w w'
structure UnIn(s:ByteArray)(U:List Un)(f pos n cap:Nat)(ao:Option Addr)(li co:Nat)(w wr:World):Prop where
 iter:wr.heap[w.heap.size]? =some (.stringIter s pos)
 own:wr.ownsRow (w.heap.size+1) 159 5 (.slice ao n cap) n (U.flatMap cellsU)
 len:n=U.length
 rel:B.unitsL s=U.map unitR++B.unitsF s f pos
 fuel:s.size≤f+pos
 li:li≤n+1
 co:co≤n+1
 npos:n≤pos
 bel:Below w.heap.size w wr
theorem own_iter{w:World}{base n size k pos:Nat}{E:TypeId}{v:Value}{xs:List Value}{s:ByteArray}(h:w.ownsRow base E size v n xs)(hk:k<base):(w.iterAt k s pos).ownsRow base E size v n xs:=by
 refine⟨h.1, ?_⟩;rcases h.2 with h2 | ⟨g,cap,cur,e,hb,hh,h3⟩
 ·exact .inl h2
 ·exact .inr ⟨g,cap,cur,e,hb,(Lib.iterAt_other w k g s pos (by omega)).trans hh,h3⟩
set_option maxRecDepth 100000 in
set_option maxHeartbeats 1600000 in
theorem units_any(s:ByteArray)(w:World)(hs:s.size≤1024):Calls Tryz.prog 92 #[.string s] w (UnitsOut (B.unitsL s) w):=by
 go_enter Tryz.func92,Tryz.ntmps92;go_wp2_with fail
 go_loopw [3,4,5] (fun l ln cl wr=>∃(U:List Un) (f pos n cap:Nat) (ao:Option Addr) (li co:Nat),l=Value.slice ao n cap∧ln= .int .i64 (li:Int)∧cl= .int .i64 (co:Int)∧Hid (UnIn s U f pos n cap ao li co w wr)) (fun _ _ _ wr=>s.size-wr.iterPos w.heap.size)
 case atStart=>exact⟨([]:List Un),s.size,0,0,0,none,1,1,rfl,rfl,rfl,hd' ⟨World.iter_heap w s 0,World.ownsRow_nil _ _ _ _,rfl,rfl,by omega,by omega,by omega,by omega,(Below.refl _ _).alloc (Nat.le_refl _) _⟩⟩
 case round=>
  obtain⟨U,f,pos,n,cap,ao,li,co,rfl,rfl,rfl,HK⟩:=hrel;have hit:=HK.out.iter;have hpos0:=iterPos_of hit
  by_cases hp:pos<s.size
  ·have hnx:∀ty,(Instr.next (.pointer (some ⟨w.heap.size,0,none⟩)) true ty).run Tryz.prog wr=_:=fun ty=>Lib.run_next_any_at wr w.heap.size s pos ty hit hp
   have hit2:=Lib.iterAt_heap wr w.heap.size s pos (pos+(Utf8.decode s pos).2) hit;have hbw2:=Lib.below_iterAt HK.out.bel (k:=w.heap.size) (Nat.le_refl _) s (pos+(Utf8.decode s pos).2);have hown2:=own_iter (s:=s) (pos:=pos+(Utf8.decode s pos).2) HK.out.own (Nat.lt_succ_self w.heap.size);obtain⟨g,hfg,hstep⟩:=B.unitsF_step s hp HK.out.fuel;have hill:=B.ill_iff s pos
   have hw2:1≤(Utf8.decode s pos).2:=by
    by_cases ha:(s[pos]'hp).toNat<128
    ·rw[decode_ascii s pos hp ha];exact Nat.le_refl _
    ·exact(decode_high s pos hp (by omega)).2
   have hd31:=decode_le s pos;obtain⟨il,hil⟩:∃il,B.illAt s pos=il:=⟨_,rfl⟩;unfold B.illAt at hil
   have hstep':B.unitsF s f pos=((Utf8.decode s pos).1,il)::B.unitsF s g (pos+(Utf8.decode s pos).2):=by rw[hstep,←hil];rfl
   clear hstep;obtain⟨d1,hd1⟩:∃d,(Utf8.decode s pos).1=d:=⟨_,rfl⟩;obtain⟨d2,hd2⟩:∃d,(Utf8.decode s pos).2=d:=⟨_,rfl⟩;rw[hd1,hd2]at hnx hil hill hstep';rw[hd2]at hit2 hbw2 hown2 hw2;rw[hd1]at hd31;clear hd1 hd2;obtain⟨W1,hW1⟩:∃W1,wr.iterAt w.heap.size s (pos+d2)=W1:=⟨_,rfl⟩;rw[hW1]at hnx hit2 hbw2 hown2
   have hb0:(s.get! pos).toNat=(s[pos]'hp).toNat:=by rw[get_bang s pos hp]
   have HST:=hd' hstep';have HIL:=hd' hil;have HILL:=hd' hill;have HB0:=hd' hb0;have HIT:=hd' hit2;have HBW:=hd' hbw2;have HOW:=hd' hown2;have HW2:=hd' hw2;have HFG:=hd' hfg;have HP0:=hd' hpos0;have hcv:=run_runeString (d1:Int)
   have hz:W1.heap.size=wr.heap.size:=by rw[←hW1];exact Lib.iterAt_size ..
   have hlt:w.heap.size<W1.heap.size:=lt_of_block hit2;have HZ:=hd' hz;clear hit hstep' hil hill hb0 hit2 hbw2 hown2 hw2 hfg hpos0 hW1 hz
   by_cases hr:d1=65533
   ·have e1:((d1:Int)==65533)=true:=by simp[hr]
    have HR:=hd' hr;clear hr
    by_cases h2:s.size≤pos+2
    ·have e2:((pos:Int)+2≥(s.size:Int))=True:=by simp;omega
     have HILB:Hid (il=true):=hd' (by rw[←HIL.out,HR.out,(HILL.out HR.out).2 (.inl h2)];rfl);clear h2;have hn:n<1024:=Nat.lt_of_le_of_lt HK.out.npos (Nat.lt_of_lt_of_le hp hs);have hli:li≤1024:=Nat.le_trans HK.out.li hn;have hco:co≤1024:=Nat.le_trans HK.out.co hn
     have e10:((d1:Int)==10)=false:=by have:=HR.out;simp;omega
     go_upto_region 12 with(at_builtin;refine app_gen Tryz.underlying156 infoUn rfl (by decide) rfl _ _ rfl (w.heap.size+1) rfl HOW.out rfl rfl (by simp[Value.oneCell']) (by omega) (by omega) hlt ?_;intro ao2 cap2 w2 hown2 hg2 hb2 hs2)
     have hiter:=(hb2.block _ (Nat.lt_succ_self _)).trans HIT.out;have HF:Hid (UnIn s (U++[⟨li,co,d1,1,true⟩]) g (pos+d2) (n+1) cap2 ao2 li (co+1) w w2):=hd' ⟨hiter,(by rw[List.flatMap_append];exact hown2),(by rw[List.length_append,←HK.out.len];rfl),(by rw[HK.out.rel,HST.out,HILB.out,List.map_append,List.append_assoc];rfl),(by have:=HK.out.fuel;have:=HFG.out;have:=HW2.out;omega),(by have:=HK.out.li;omega),(by have:=HK.out.co;omega),(by have:=HK.out.npos;have:=HW2.out;omega),HBW.out.trans (hb2.mono (Nat.le_succ _))⟩;have HM:Hid (s.size-w2.iterPos w.heap.size<s.size-wr.iterPos w.heap.size):=hd' (by rw[iterPos_of hiter,HP0.out];have:=HW2.out;omega);clear hown2 hg2 hb2 hs2 hiter hn;go_wp2_with fail;go_roundw
     case rel=>exact⟨_,g,pos+d2,n+1,cap2,ao2,li,co+1,by first | rfl | go_num,by first | rfl | go_num,by first | rfl | go_num,HF⟩
     case measure=>exact HM.out
    ·have e2:((pos:Int)+2≥(s.size:Int))=False:=by simp;omega
     have hp2:pos+2<s.size:=by omega
     have hp1:pos+1<s.size:=by omega
     have HB1:Hid ((s.get! (pos+1)).toNat=(s[pos+1]'hp1).toNat):=hd' (by rw[get_bang s _ hp1]);have HB2:Hid ((s.get! (pos+2)).toNat=(s[pos+2]'hp2).toNat):=hd' (by rw[get_bang s _ hp2])
     by_cases h3:(s[pos]'hp).toNat=239
     ·have e3:(((s[pos]'hp).toNat:Int) !=239)=false:=by simp;omega
      by_cases h4:(s[pos+1]'hp1).toNat=191
      ·have e4:(((s[pos+1]'hp1).toNat:Int) !=191)=false:=by simp;omega
       by_cases h5:(s[pos+2]'hp2).toNat=189
       ·have e5:(((s[pos+2]'hp2).toNat:Int) !=189)=false:=by simp;omega
        have HILB:Hid (il=false):=hd' (by
         rw[←HIL.out,HR.out]
         have:¬d2=1:=fun h=>by
          rcases(HILL.out HR.out).1 h with h | h | h | h
          ·exact h2 h
          ·exact h (HB0.out.trans h3)
          ·exact h (HB1.out.trans h4)
          ·exact h (HB2.out.trans h5)
         simp[this])
        clear h2 h3 h4 h5;have hn:n<1024:=Nat.lt_of_le_of_lt HK.out.npos (Nat.lt_of_lt_of_le hp hs);have hli:li≤1024:=Nat.le_trans HK.out.li hn;have hco:co≤1024:=Nat.le_trans HK.out.co hn
        have e10:((d1:Int)==10)=false:=by have:=HR.out;simp;omega
        go_upto_region 12 with(at_builtin;refine app_gen Tryz.underlying156 infoUn rfl (by decide) rfl _ _ rfl (w.heap.size+1) rfl HOW.out rfl rfl (by simp[Value.oneCell']) (by omega) (by omega) hlt ?_;intro ao2 cap2 w2 hown2 hg2 hb2 hs2)
        have hiter:=(hb2.block _ (Nat.lt_succ_self _)).trans HIT.out;have HF:Hid (UnIn s (U++[⟨li,co,d1,((Utf8.encode (d1:Int)).size:Int),false⟩]) g (pos+d2) (n+1) cap2 ao2 li (co+1) w w2):=hd' ⟨hiter,(by rw[List.flatMap_append];exact hown2),(by rw[List.length_append,←HK.out.len];rfl),(by rw[HK.out.rel,HST.out,HILB.out,List.map_append,List.append_assoc];rfl),(by have:=HK.out.fuel;have:=HFG.out;have:=HW2.out;omega),(by have:=HK.out.li;omega),(by have:=HK.out.co;omega),(by have:=HK.out.npos;have:=HW2.out;omega),HBW.out.trans (hb2.mono (Nat.le_succ _))⟩;have HM:Hid (s.size-w2.iterPos w.heap.size<s.size-wr.iterPos w.heap.size):=hd' (by rw[iterPos_of hiter,HP0.out];have:=HW2.out;omega);clear hown2 hg2 hb2 hs2 hiter hn;go_wp2_with fail;go_roundw
        case rel=>exact⟨_,g,pos+d2,n+1,cap2,ao2,li,co+1,by first | rfl | go_num,by first | rfl | go_num,by first | rfl | go_num,HF⟩
        case measure=>exact HM.out
       ·have e5:(((s[pos+2]'hp2).toNat:Int) !=189)=true:=by simp;omega
        have HILB:Hid (il=true):=hd' (by rw[←HIL.out,HR.out,(HILL.out HR.out).2 (.inr (.inr (.inr (by rw[HB2.out];exact h5))))];rfl);clear h2 h3 h4 h5;have hn:n<1024:=Nat.lt_of_le_of_lt HK.out.npos (Nat.lt_of_lt_of_le hp hs);have hli:li≤1024:=Nat.le_trans HK.out.li hn;have hco:co≤1024:=Nat.le_trans HK.out.co hn
        have e10:((d1:Int)==10)=false:=by have:=HR.out;simp;omega
        go_upto_region 12 with(at_builtin;refine app_gen Tryz.underlying156 infoUn rfl (by decide) rfl _ _ rfl (w.heap.size+1) rfl HOW.out rfl rfl (by simp[Value.oneCell']) (by omega) (by omega) hlt ?_;intro ao2 cap2 w2 hown2 hg2 hb2 hs2)
        have hiter:=(hb2.block _ (Nat.lt_succ_self _)).trans HIT.out;have HF:Hid (UnIn s (U++[⟨li,co,d1,1,true⟩]) g (pos+d2) (n+1) cap2 ao2 li (co+1) w w2):=hd' ⟨hiter,(by rw[List.flatMap_append];exact hown2),(by rw[List.length_append,←HK.out.len];rfl),(by rw[HK.out.rel,HST.out,HILB.out,List.map_append,List.append_assoc];rfl),(by have:=HK.out.fuel;have:=HFG.out;have:=HW2.out;omega),(by have:=HK.out.li;omega),(by have:=HK.out.co;omega),(by have:=HK.out.npos;have:=HW2.out;omega),HBW.out.trans (hb2.mono (Nat.le_succ _))⟩;have HM:Hid (s.size-w2.iterPos w.heap.size<s.size-wr.iterPos w.heap.size):=hd' (by rw[iterPos_of hiter,HP0.out];have:=HW2.out;omega);clear hown2 hg2 hb2 hs2 hiter hn;go_wp2_with fail;go_roundw
        case rel=>exact⟨_,g,pos+d2,n+1,cap2,ao2,li,co+1,by first | rfl | go_num,by first | rfl | go_num,by first | rfl | go_num,HF⟩
        case measure=>exact HM.out
      ·have e4:(((s[pos+1]'hp1).toNat:Int) !=191)=true:=by simp;omega
       have HILB:Hid (il=true):=hd' (by rw[←HIL.out,HR.out,(HILL.out HR.out).2 (.inr (.inr (.inl (by rw[HB1.out];exact h4))))];rfl);clear h2 h3 h4;have hn:n<1024:=Nat.lt_of_le_of_lt HK.out.npos (Nat.lt_of_lt_of_le hp hs);have hli:li≤1024:=Nat.le_trans HK.out.li hn;have hco:co≤1024:=Nat.le_trans HK.out.co hn
       have e10:((d1:Int)==10)=false:=by have:=HR.out;simp;omega
       go_upto_region 12 with(at_builtin;refine app_gen Tryz.underlying156 infoUn rfl (by decide) rfl _ _ rfl (w.heap.size+1) rfl HOW.out rfl rfl (by simp[Value.oneCell']) (by omega) (by omega) hlt ?_;intro ao2 cap2 w2 hown2 hg2 hb2 hs2)
       have hiter:=(hb2.block _ (Nat.lt_succ_self _)).trans HIT.out;have HF:Hid (UnIn s (U++[⟨li,co,d1,1,true⟩]) g (pos+d2) (n+1) cap2 ao2 li (co+1) w w2):=hd' ⟨hiter,(by rw[List.flatMap_append];exact hown2),(by rw[List.length_append,←HK.out.len];rfl),(by rw[HK.out.rel,HST.out,HILB.out,List.map_append,List.append_assoc];rfl),(by have:=HK.out.fuel;have:=HFG.out;have:=HW2.out;omega),(by have:=HK.out.li;omega),(by have:=HK.out.co;omega),(by have:=HK.out.npos;have:=HW2.out;omega),HBW.out.trans (hb2.mono (Nat.le_succ _))⟩;have HM:Hid (s.size-w2.iterPos w.heap.size<s.size-wr.iterPos w.heap.size):=hd' (by rw[iterPos_of hiter,HP0.out];have:=HW2.out;omega);clear hown2 hg2 hb2 hs2 hiter hn;go_wp2_with fail;go_roundw
       case rel=>exact⟨_,g,pos+d2,n+1,cap2,ao2,li,co+1,by first | rfl | go_num,by first | rfl | go_num,by first | rfl | go_num,HF⟩
       case measure=>exact HM.out
     ·have e3:(((s[pos]'hp).toNat:Int) !=239)=true:=by simp;omega
      have HILB:Hid (il=true):=hd' (by rw[←HIL.out,HR.out,(HILL.out HR.out).2 (.inr (.inl (by rw[HB0.out];exact h3)))];rfl);clear h2 h3;have hn:n<1024:=Nat.lt_of_le_of_lt HK.out.npos (Nat.lt_of_lt_of_le hp hs);have hli:li≤1024:=Nat.le_trans HK.out.li hn;have hco:co≤1024:=Nat.le_trans HK.out.co hn
      have e10:((d1:Int)==10)=false:=by have:=HR.out;simp;omega
      go_upto_region 12 with(at_builtin;refine app_gen Tryz.underlying156 infoUn rfl (by decide) rfl _ _ rfl (w.heap.size+1) rfl HOW.out rfl rfl (by simp[Value.oneCell']) (by omega) (by omega) hlt ?_;intro ao2 cap2 w2 hown2 hg2 hb2 hs2)
      have hiter:=(hb2.block _ (Nat.lt_succ_self _)).trans HIT.out;have HF:Hid (UnIn s (U++[⟨li,co,d1,1,true⟩]) g (pos+d2) (n+1) cap2 ao2 li (co+1) w w2):=hd' ⟨hiter,(by rw[List.flatMap_append];exact hown2),(by rw[List.length_append,←HK.out.len];rfl),(by rw[HK.out.rel,HST.out,HILB.out,List.map_append,List.append_assoc];rfl),(by have:=HK.out.fuel;have:=HFG.out;have:=HW2.out;omega),(by have:=HK.out.li;omega),(by have:=HK.out.co;omega),(by have:=HK.out.npos;have:=HW2.out;omega),HBW.out.trans (hb2.mono (Nat.le_succ _))⟩;have HM:Hid (s.size-w2.iterPos w.heap.size<s.size-wr.iterPos w.heap.size):=hd' (by rw[iterPos_of hiter,HP0.out];have:=HW2.out;omega);clear hown2 hg2 hb2 hs2 hiter hn;go_wp2_with fail;go_roundw
      case rel=>exact⟨_,g,pos+d2,n+1,cap2,ao2,li,co+1,by first | rfl | go_num,by first | rfl | go_num,by first | rfl | go_num,HF⟩
      case measure=>exact HM.out
   ·have e1:((d1:Int)==65533)=false:=by simp;omega
    have HILB:Hid (il=false):=hd' (by rw[←HIL.out];simp[hr]);clear hr
    by_cases h10:d1=10
    ·have e10:((d1:Int)==10)=true:=by simp[h10]
     clear h10;have hn:n<1024:=Nat.lt_of_le_of_lt HK.out.npos (Nat.lt_of_lt_of_le hp hs);have hli:li≤1024:=Nat.le_trans HK.out.li hn;have hco:co≤1024:=Nat.le_trans HK.out.co hn
     go_upto_region 12 with(at_builtin;refine app_gen Tryz.underlying156 infoUn rfl (by decide) rfl _ _ rfl (w.heap.size+1) rfl HOW.out rfl rfl (by simp[Value.oneCell']) (by omega) (by omega) hlt ?_;intro ao2 cap2 w2 hown2 hg2 hb2 hs2)
     have hiter:=(hb2.block _ (Nat.lt_succ_self _)).trans HIT.out;have HF:Hid (UnIn s (U++[⟨li,co,d1,((Utf8.encode (d1:Int)).size:Int),false⟩]) g (pos+d2) (n+1) cap2 ao2 (li+1) 1 w w2):=hd' ⟨hiter,(by rw[List.flatMap_append];exact hown2),(by rw[List.length_append,←HK.out.len];rfl),(by rw[HK.out.rel,HST.out,HILB.out,List.map_append,List.append_assoc];rfl),(by have:=HK.out.fuel;have:=HFG.out;have:=HW2.out;omega),(by have:=HK.out.li;omega),(by have:=HK.out.co;omega),(by have:=HK.out.npos;have:=HW2.out;omega),HBW.out.trans (hb2.mono (Nat.le_succ _))⟩;have HM:Hid (s.size-w2.iterPos w.heap.size<s.size-wr.iterPos w.heap.size):=hd' (by rw[iterPos_of hiter,HP0.out];have:=HW2.out;omega);clear hown2 hg2 hb2 hs2 hiter hn;go_wp2_with fail;go_roundw
     case rel=>exact⟨_,g,pos+d2,n+1,cap2,ao2,li+1,1,by first | rfl | go_num,by first | rfl | go_num,by first | rfl | go_num,HF⟩
     case measure=>exact HM.out
    ·have e10:((d1:Int)==10)=false:=by simp;omega
     clear h10;have hn:n<1024:=Nat.lt_of_le_of_lt HK.out.npos (Nat.lt_of_lt_of_le hp hs);have hli:li≤1024:=Nat.le_trans HK.out.li hn;have hco:co≤1024:=Nat.le_trans HK.out.co hn
     go_upto_region 12 with(at_builtin;refine app_gen Tryz.underlying156 infoUn rfl (by decide) rfl _ _ rfl (w.heap.size+1) rfl HOW.out rfl rfl (by simp[Value.oneCell']) (by omega) (by omega) hlt ?_;intro ao2 cap2 w2 hown2 hg2 hb2 hs2)
     have hiter:=(hb2.block _ (Nat.lt_succ_self _)).trans HIT.out;have HF:Hid (UnIn s (U++[⟨li,co,d1,((Utf8.encode (d1:Int)).size:Int),false⟩]) g (pos+d2) (n+1) cap2 ao2 li (co+1) w w2):=hd' ⟨hiter,(by rw[List.flatMap_append];exact hown2),(by rw[List.length_append,←HK.out.len];rfl),(by rw[HK.out.rel,HST.out,HILB.out,List.map_append,List.append_assoc];rfl),(by have:=HK.out.fuel;have:=HFG.out;have:=HW2.out;omega),(by have:=HK.out.li;omega),(by have:=HK.out.co;omega),(by have:=HK.out.npos;have:=HW2.out;omega),HBW.out.trans (hb2.mono (Nat.le_succ _))⟩;have HM:Hid (s.size-w2.iterPos w.heap.size<s.size-wr.iterPos w.heap.size):=hd' (by rw[iterPos_of hiter,HP0.out];have:=HW2.out;omega);clear hown2 hg2 hb2 hs2 hiter hn;go_wp2_with fail;go_roundw
     case rel=>exact⟨_,g,pos+d2,n+1,cap2,ao2,li,co+1,by first | rfl | go_num,by first | rfl | go_num,by first | rfl | go_num,HF⟩
     case measure=>exact HM.out
  ·have hnx:∀ty,(Instr.next (.pointer (some ⟨w.heap.size,0,none⟩)) true ty).run Tryz.prog wr=_:=fun ty=>Lib.run_next_end_at wr w.heap.size s pos ty hit hp
   have HF:Hid (B.unitsL s=U.map unitR):=hd' (by rw[HK.out.rel,B.unitsF_end s hp,List.append_nil])
   have HO:Hid (wr.ownsRow w.heap.size 159 5 (.slice ao n cap) n (U.flatMap cellsU)):=hd' (by
    have h:=HK.out.own;refine⟨h.1, ?_⟩;rcases h.2 with h2 | ⟨g,c,cur,e,hb,hh,h3⟩
    ·exact .inl h2
    ·exact .inr ⟨g,c,cur,e,by omega,hh,h3⟩)
   clear hit hpos0 hp;go_wp2_with fail;go_ret;exact⟨ao,n,cap,U,rfl,HK.out.len,HO.out,HF.out.symm,HK.out.bel⟩
end Code
end Go.Proofs.YtljhklblbafjkaaGreatDoor
namespace Go.Proofs.YtljhklblbafjkaaGreatDoor
open Go.RowKit
namespace Code
attribute [local go_sem ↓] Go.wp_at_zero Go.wp_at_succ
theorem UnitsOut.cell{w:World}{base n cap:Nat}{ao:Option Addr}{U:List Un}(h:w.ownsRow base 159 5 (.slice ao n cap) n (U.flatMap cellsU))(hn:n=U.length){i j:Nat}{u:Un}{v:Value}(hu:U[i]? =some u)(hj:j<5)(hv:(cellsU u)[j]? =some v):
    ∃g,ao=some ⟨g,0,none⟩∧g<w.heap.size∧w.cell? ⟨g,i*5+j,none⟩=some v:=by
 have hi:=(List.getElem?_eq_some_iff.1 hu).1;rcases h.2 with⟨e,h0⟩ | ⟨g,c,cur,e,hb,hh,h3⟩
 ·omega
 ·injection e with e _ _
  subst e;refine⟨g,rfl,lt_of_block hh, ?_⟩;rw[World.ownsRow.cellAt h (i*5+j) (by omega),cellsU_get U i u hu j hj,hv]
set_option maxRecDepth 100000 in
set_option maxHeartbeats 1600000 in
theorem may_any(s:ByteArray)(w:World)(hs:s.size≤9223372036854775807):Calls Tryz.prog 61 #[.string s] w (NumOut (B.textNo s) w):=by
 obtain⟨ans,hans⟩:∃ans,B.textNo s=ans:=⟨_,rfl⟩;rw[hans];rw[B.textNo_units]at hans
 by_cases h1:1024<s.size
 ·have e1:((1024:Int)<(s.size:Int))=True:=by simp;omega
  rw[if_pos h1]at hans;have HA:=hd' hans;clear hans h1;go_enter Tryz.func61,Tryz.ntmps61;go_wp2_with fail;go_ret;exact⟨by rw[←HA.out];rfl,Below.refl _ _⟩
 ·have e1:((1024:Int)<(s.size:Int))=False:=by simp;omega
  rw[if_neg h1]at hans;have HA:=hd' hans;have hun:=units_any s w (by omega);clear hans h1;go_enter Tryz.func61,Tryz.ntmps61;go_wp2_with fail;refine hun.mono ?_;rintro e w2 ⟨ao,n,cap,U,rfl,hn,hown,hmap,hb⟩;have HN:=hd' hn;have HO:=hd' hown;have HM:=hd' hmap;have HB:=hd' hb
  have hcap:n≤9223372036854775807:=by
   rcases hown.2 with⟨_,h0⟩ | ⟨_,_,_,_,_,_,h3,h4,_⟩
   ·omega
   ·unfold maxLen at h4
    omega
  clear hun hn hown hmap hb;go_wp2_with fail
  go_loop [4] (fun i=>∃k:Nat,k≤n∧i= .int .i64 (k:Int)∧Hid (∀j u,j<k→U[j]? =some u→B.badU (unitR u)=false)) (fun i=>n-(intOf i).toNat)
  case atStart=>exact⟨0,Nat.zero_le _,rfl,hd' (fun j u h=>by omega)⟩
  case round=>
   obtain⟨k,hk,rfl,HI⟩:=hrel
   by_cases hlt:k<n
   ·have e3:((k:Int)<(n:Int))=True:=by simp;omega
    have q0:(0:Int)≤(k:Int):=by omega
    have q1:(k:Int)<n:=by omega
    have hu:U[k]? =some (U[k]'(by have:=HN.out;omega)):=List.getElem?_eq_getElem _;generalize U[k]'(by have:=HN.out;omega)=u at hu;obtain⟨li,co,r,wd,il⟩:=u;obtain⟨g,rfl,hg,hc3⟩:=UnitsOut.cell HO.out HN.out hu (j:=4) (v:=.bool il) (by omega) rfl;obtain⟨g',e,_,hc1⟩:=UnitsOut.cell HO.out HN.out hu (j:=2) (v:=.int .i32 (r:Int)) (by omega) rfl;injection e with e;injection e with e _ _;subst e;have HU:=hd' hu;have hlt2:=hlt;clear hu hg
    have hstop:B.badU (r,il)=true→ans=6:=fun h=>by
     rw[←HA.out,if_pos];refine List.any_eq_true.2 ⟨(r,il), ?_,h⟩;rw[←HM.out];exact List.mem_map.2 ⟨_,List.mem_of_getElem? HU.out,rfl⟩
    have HS:=hd' hstop;clear hstop hlt2
    cases il with
    | true=>
     have HE:=hd' (HS.out (by unfold B.badU;rfl));go_wp2_with fail;go_ret;exact⟨by rw[HE.out];rfl,HB.out⟩
    | false=>
     have hct:=control_any r w2
     cases hcr:B.controlR r with
     | true=>
      rw[hcr]at hct;have HE:=hd' (HS.out (by unfold B.badU;simp[hcr]));clear hcr;go_wp2_with fail;refine hct.mono ?_;rintro e w3 ⟨rfl,rfl⟩;go_wp2_with fail;go_ret;exact⟨by rw[HE.out];rfl,HB.out⟩
     | false=>
      rw[hcr]at hct
      have HI2:Hid (∀j u,j<k+1→U[j]? =some u→B.badU (unitR u)=false):=hd' (fun j u hj hu=>by
       rcases Nat.lt_or_ge j k with h | h
       ·exact HI.out j u h hu
       ·obtain rfl:j=k:=by omega
        rw[HU.out]at hu;obtain rfl:=Option.some.inj hu;unfold B.badU unitR
        simp[hcr])
      clear hcr;go_wp2_with fail;refine hct.mono ?_;rintro e w3 ⟨rfl,rfl⟩;clear hct;go_wp2_with fail
      go_round
      case rel=>exact⟨k+1,by omega,by go_num,HI2⟩
      case measure=>simp[intOf];omega
   ·obtain rfl:k=n:=by omega
    have e3:((k:Int)<(k:Int))=False:=by simp
    have ha:ans=0:=by
     rw[←HA.out,if_neg];intro h;obtain⟨x,hx,hb⟩:=List.any_eq_true.1 h;rw[←HM.out]at hx;obtain⟨u,hu,rfl⟩:=List.mem_map.1 hx;obtain⟨j,hj⟩:=List.getElem?_of_mem hu;have:=HI.out j u (by have:=(List.getElem?_eq_some_iff.1 hj).1;have:=HN.out;omega) hj;rw[this]at hb;cases hb
    have HE:=hd' ha;clear ha;go_wp2_with fail;go_ret;exact⟨by rw[HE.out];rfl,HB.out⟩
end Code
end Go.Proofs.YtljhklblbafjkaaGreatDoor
