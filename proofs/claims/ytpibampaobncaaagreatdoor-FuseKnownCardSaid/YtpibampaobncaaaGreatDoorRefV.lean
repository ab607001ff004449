/- busbarref12: is an instruction right? Letter by letter. -/
import Derived.Test.YtpibampaobncaaaGreatDoorMoreQ
import Derived.Deep.MidRow
import Derived.IntWalk
open Go.Lib renaming hid→hd'
namespace Go.Proofs.YtpibampaobncaaaGreatDoor
open Go.RowKit
namespace Code
attribute [local go_sem ↓] Go.wp_at_zero Go.wp_at_succ
theorem letters_in(op:Int):∀c∈B.letters op,c=97∨c=98∨c=107∨c=110∨c=115∨c=104∨c=119∨c=106∨c=105∨c=103∨c=63:=by
 intro c hc;unfold B.letters at hc;split at hc
 ·rename_i h
  have ho:op=0∨op=1∨op=2∨op=3∨op=4∨op=5∨op=6∨op=7∨op=8∨op=9∨op=10∨op=11∨op=12∨op=13∨op=14∨op=15∨op=16∨op=17∨op=18∨op=19:=by omega
  rcases ho with rfl | rfl | rfl | rfl | rfl | rfl | rfl | rfl | rfl | rfl | rfl | rfl | rfl | rfl | rfl | rfl | rfl | rfl | rfl | rfl<;>simp[B.fieldsL]at hc<;>omega
 ·simp at hc;omega
theorem n_at{op:Int}{k:Nat}(h:(B.letters op)[k]? =some 110):(B.letters op).take k=[97,107]:=by
 unfold B.letters at h⊢;split at h
 ·rename_i h0
  rw[if_pos h0]
  have ho:op=0∨op=1∨op=2∨op=3∨op=4∨op=5∨op=6∨op=7∨op=8∨op=9∨op=10∨op=11∨op=12∨op=13∨op=14∨op=15∨op=16∨op=17∨op=18∨op=19:=by omega
  have hk:k=0∨k=1∨k=2∨k=3∨4≤k:=by omega
  rcases ho with rfl | rfl | rfl | rfl | rfl | rfl | rfl | rfl | rfl | rfl | rfl | rfl | rfl | rfl | rfl | rfl | rfl | rfl | rfl | rfl<;>
   (rcases hk with rfl | rfl | rfl | rfl | hk<;>first | rfl | (simp[B.fieldsL]at h;done) | (exfalso;rw[List.getElem?_eq_none (by simp[B.fieldsL];omega)]at h;cases h))
 ·exfalso
  cases k with
  | zero=>simp at h
  | succ k=>simp at h
theorem letters_len(op:Int):(B.letters op).length≤4:=by
 unfold B.letters;split
 ·rename_i h
  have ho:op=0∨op=1∨op=2∨op=3∨op=4∨op=5∨op=6∨op=7∨op=8∨op=9∨op=10∨op=11∨op=12∨op=13∨op=14∨op=15∨op=16∨op=17∨op=18∨op=19:=by omega
  rcases ho with rfl | rfl | rfl | rfl | rfl | rfl | rfl | rfl | rfl | rfl | rfl | rfl | rfl | rfl | rfl | rfl | rfl | rfl | rfl | rfl<;>simp[B.fieldsL]
 ·simp
theorem lettersS_size(op:Int):(lettersS op).size=(B.letters op).length:=by
 show(Array.mk _).size=_
 simp
theorem lettersS_get(op:Int)(k:Nat)(h:k<(lettersS op).size)(c:Nat)(hc:(B.letters op)[k]? =some c):((lettersS op)[k].toNat:Int)=(c:Int):=by
 have hm:=letters_in op c (List.mem_of_getElem? hc)
 have e:(lettersS op)[k]=UInt8.ofNat c:=by
  have h1:(lettersS op).data[k]? =some (UInt8.ofNat c):=by
   unfold lettersS;rw[List.getElem?_toArray,List.getElem?_map,hc];rfl
  have h2:=(Array.getElem?_eq_some_iff.1 h1).2;exact h2
 rw[e]
 rcases hm with rfl | rfl | rfl | rfl | rfl | rfl | rfl | rfl | rfl | rfl | rfl<;>rfl
theorem lettersS_ne(op:Int):(lettersS op !=(⟨#[63]⟩:ByteArray))=decide (B.letters op≠[63]):=by
 unfold lettersS B.letters;split
 ·rename_i h
  have ho:op=0∨op=1∨op=2∨op=3∨op=4∨op=5∨op=6∨op=7∨op=8∨op=9∨op=10∨op=11∨op=12∨op=13∨op=14∨op=15∨op=16∨op=17∨op=18∨op=19:=by omega
  rcases ho with rfl | rfl | rfl | rfl | rfl | rfl | rfl | rfl | rfl | rfl | rfl | rfl | rfl | rfl | rfl | rfl | rfl | rfl | rfl | rfl<;>decide+kernel
 ·decide+kernel
theorem lettersS_list(op:Int):((lettersS op).toList==([63]:List UInt8))= !decide (B.letters op≠[63]):=by
 unfold lettersS B.letters;split
 ·rename_i h
  have ho:op=0∨op=1∨op=2∨op=3∨op=4∨op=5∨op=6∨op=7∨op=8∨op=9∨op=10∨op=11∨op=12∨op=13∨op=14∨op=15∨op=16∨op=17∨op=18∨op=19:=by omega
  rcases ho with rfl | rfl | rfl | rfl | rfl | rfl | rfl | rfl | rfl | rfl | rfl | rfl | rfl | rfl | rfl | rfl | rfl | rfl | rfl | rfl<;>decide+kernel
 ·decide+kernel
theorem from_b(n l h:Int)(b:Bool)(hb:decide (l≤n∧n≤h)=b)(w:World):Calls Tryz.prog 95 #[.int .i64 n,.int .i64 l,.int .i64 h] w fun e w'=>e= .returned (.bool b)∧w'=w:=by
 rw[←hb];exact from_any n l h w
end Code
end Go.Proofs.YtpibampaobncaaaGreatDoor
namespace Go.Proofs.YtpibampaobncaaaGreatDoor
open Go.RowKit
namespace Code
attribute [local go_sem ↓] Go.wp_at_zero Go.wp_at_succ
def Right12(x:B.Ins)(w:World)(e:Ending)(w':World):Prop:=e= .returned (.int .i64 (if x.right then 0 else 20))∧Below w.heap.size w w'
structure RightAt(x:B.Ins)(w:World)(G:Nat)(st:B.Ins×Bool)(ok:Bool)(wr:World):Prop where
 want:wr.heap[G]? =some (.cells #[.int .i64 st.1.op,.int .i64 st.1.a,.int .i64 st.1.b,.int .i64 st.1.n,.int .u64 st.1.imm] 25 (0,0))
 own:wr.heap[w.heap.size]? =some (.cells #[.int .i64 x.op,.int .i64 x.a,.int .i64 x.b,.int .i64 x.n,.int .u64 x.imm] 25 (0,0))
 okv:ok=st.2
 below:Below w.heap.size w wr
theorem refSt_next(x:B.Ins)(k c:Nat)(hc:(B.letters x.op)[k]? =some c):B.refSt x ((B.letters x.op).take (k+1))=B.letter x (B.refSt x ((B.letters x.op).take k)) c:=by
 rw[List.take_add_one,hc];exact B.refSt_snoc x _ c
set_option maxRecDepth 100000 in
set_option maxHeartbeats 12800000 in
theorem right12_any(x:B.Ins)(hwf:x.Wf)(w:World):Calls Tryz.prog 71 #[.agg #[.int .i64 x.op,.int .i64 x.a,.int .i64 x.b,.int .i64 x.n,.int .u64 x.imm]] w (Right12 x w):=by
 have HWF:=hd' hwf;have HRT:=hd' (B.refRight_eq x hwf);clear hwf;have hb0:Below w.heap.size w (w.alloc (.cells #[.int .i64 x.op,.int .i64 x.a,.int .i64 x.b,.int .i64 x.n,.int .u64 x.imm] 25)):=(Below.refl _ _).alloc (Nat.le_refl _) _;have HB0:=hd' hb0;have HK0:=hd' (heap_alloc_new w (.cells #[.int .i64 x.op,.int .i64 x.a,.int .i64 x.b,.int .i64 x.n,.int .u64 x.imm] 25));clear hb0;go_enter Tryz.func71,Tryz.ntmps71;go_wp2_with fail;refine(fieldsS_any x.op _).mono ?_;rintro e w1 ⟨rfl,hb1⟩;have hG:=(hb1.block w.heap.size (by simp)).trans HK0.out;have x0:w1.cell? ⟨w.heap.size,0,none⟩=some (.int .i64 x.op):=(cell_of_row _ _ _ _ _ _ hG).trans rfl;have HB1:=hd' (HB0.out.trans (hb1.mono (by simp)));have HK1:=hd' hG;have hlt1:w.heap.size<w1.heap.size:=lt_of_block hG;clear hb1 hG;have hl4:=letters_len x.op
 have hSz:=lettersS_size x.op;have hb3:=lettersS_ne x.op;have hb4:=lettersS_list x.op
 have hget:∀(k:Nat) (h:k<(lettersS x.op).size) (c:Nat),(B.letters x.op)[k]? =some c→(((lettersS x.op)[k]).toNat:Int)=(c:Int):=fun k h c hc=>lettersS_get x.op k h c hc
 generalize lettersS x.op=S at*
 have hS4:S.size≤4:=by omega
 have HSZ:=hd' hSz;have HGET:=hd' hget;clear hl4 hSz hget;obtain⟨b0,hb0⟩:∃b0:Bool,decide (B.letters x.op≠[63])=b0:=⟨_,rfl⟩;rw[hb0]at hb3 hb4;have HB00:=hd' hb0;clear hb0;go_wp2_with fail;clear hb3 hb4 x0
 go_loopw [5,6] (fun okv i wr=>∃(k:Nat) (ok:Bool),k≤S.size∧i= .int .i64 k∧okv= .bool ok∧RightAt x w w1.heap.size (B.refSt x ((B.letters x.op).take k)) ok wr) (fun _ i _=>S.size-(intOf i).toNat)
 case atStart=>
  refine⟨0,b0,by omega,rfl,rfl, ?_, ?_, ?_, ?_⟩
  ·exact heap_alloc_new w1 _
  ·exact((World.grownBy_alloc _ _ none).block _ hlt1 (by simp)).trans HK1.out
  ·exact HB00.out.symm
  ·exact HB1.out.alloc (by omega) _
 case round=>
  obtain⟨k,ok,hk,rfl,rfl,hwant,hown,hok,hbr⟩:=hrel
  by_cases hlt:k<S.size
  ·have hc:(B.letters x.op)[k]? =some ((B.letters x.op)[k]'(by rw[←HSZ.out];exact hlt)):=List.getElem?_eq_getElem _
   generalize(B.letters x.op)[k]'(by rw[←HSZ.out];exact hlt)=c at hc;have hcs:=letters_in x.op c (List.mem_of_getElem? hc);have hcv:=HGET.out k hlt c hc;have HNX:=hd' (refSt_next x k c hc)
   have HNA:Hid (c=110→(B.letters x.op).take k=[97,107]):=fun e=>n_at (by rw[←e];exact hc)
   have HST0:=hd' (rfl:B.refSt x ((B.letters x.op).take k)=B.refSt x ((B.letters x.op).take k))
   have HOKN:Hid (c=110→ok=true→0≤x.b∧x.b≤7):=by
    show c=110→ok=true→0≤x.b∧x.b≤7
    intro e h;rw[hok,HNA.out e]at h;simp[B.refSt,B.letter]at h;omega
   generalize B.refSt x ((B.letters x.op).take k)=st at*;have HWANT:=hd' hwant;have HOWN:=hd' hown;have HBR:=hd' hbr;have g0:wr.cell? ⟨w.heap.size,0,none⟩=some (.int .i64 x.op):=(cell_of_row _ _ _ _ _ _ hown).trans rfl;have g1:wr.cell? ⟨w.heap.size,1,none⟩=some (.int .i64 x.a):=(cell_of_row _ _ _ _ _ _ hown).trans rfl;have g2:wr.cell? ⟨w.heap.size,2,none⟩=some (.int .i64 x.b):=(cell_of_row _ _ _ _ _ _ hown).trans rfl;have g3:wr.cell? ⟨w.heap.size,3,none⟩=some (.int .i64 x.n):=(cell_of_row _ _ _ _ _ _ hown).trans rfl;have g4:wr.cell? ⟨w.heap.size,4,none⟩=some (.int .u64 x.imm):=(cell_of_row _ _ _ _ _ _ hown).trans rfl;have v1:wr.cell? ⟨w1.heap.size,1,none⟩=some (.int .i64 st.1.a):=(cell_of_row _ _ _ _ _ _ hwant).trans rfl;have v2:wr.cell? ⟨w1.heap.size,2,none⟩=some (.int .i64 st.1.b):=(cell_of_row _ _ _ _ _ _ hwant).trans rfl
   have v3:wr.cell? ⟨w1.heap.size,3,none⟩=some (.int .i64 st.1.n):=(cell_of_row _ _ _ _ _ _ hwant).trans rfl;have v4:wr.cell? ⟨w1.heap.size,4,none⟩=some (.int .u64 st.1.imm):=(cell_of_row _ _ _ _ _ _ hwant).trans rfl
   have fz:∀j,wr.frozen? ⟨w1.heap.size,j,none⟩=false:=fun j=>frozen_blk hwant
   have f1:=fz 1;have f2:=fz 2;have f3:=fz 3;have f4:=fz 4
   have hne:¬(w.heap.size=w1.heap.size):=by omega
   clear hwant hown hbr hc fz;have HOK:=hd' hok;clear hok;rcases hcs with rfl | rfl | rfl | rfl | rfl | rfl | rfl | rfl | rfl | rfl | rfl
   ·-- letter 97
    have hcv':((S[k]).toNat:Int)=97:=hcv;clear hcv;obtain⟨q,hq⟩:∃q:Bool,decide (0≤x.a∧x.a≤15)=q:=⟨_,rfl⟩;have HQ:=hd' hq;clear hq
    cases ok with
    | false=>
     go_wp2_with fail;go_roundw
     case rel=>exact⟨k+1,_,by omega,by go_num,rfl,by rw[HNX.out];exact blk_setCell HWANT.out _,(blk_other _ (by simp;omega)).trans HOWN.out,by rw[HNX.out];simp[B.letter,←HOK.out],HBR.out.setCell (by show w.heap.size≤w1.heap.size;omega) _⟩
     case measure=>simp[intOf];omega
    | true=>
     go_wp2_with fail;refine(from_b _ _ _ q HQ.out _).mono ?_;rintro e w5 ⟨rfl,rfl⟩;go_wp2_with fail;go_roundw
     case rel=>exact⟨k+1,_,by omega,by go_num,rfl,by rw[HNX.out];exact blk_setCell HWANT.out _,(blk_other _ (by simp;omega)).trans HOWN.out,by rw[HNX.out];simp[B.letter,←HOK.out,←HQ.out],HBR.out.setCell (by show w.heap.size≤w1.heap.size;omega) _⟩
     case measure=>simp[intOf];omega
   ·-- letter 98
    have hcv':((S[k]).toNat:Int)=98:=hcv;clear hcv;obtain⟨q,hq⟩:∃q:Bool,decide (0≤x.b∧x.b≤15)=q:=⟨_,rfl⟩;have HQ:=hd' hq;clear hq
    cases ok with
    | false=>
     go_wp2_with fail;go_roundw
     case rel=>exact⟨k+1,_,by omega,by go_num,rfl,by rw[HNX.out];exact blk_setCell HWANT.out _,(blk_other _ (by simp;omega)).trans HOWN.out,by rw[HNX.out];simp[B.letter,←HOK.out],HBR.out.setCell (by show w.heap.size≤w1.heap.size;omega) _⟩
     case measure=>simp[intOf];omega
    | true=>
     go_wp2_with fail;refine(from_b _ _ _ q HQ.out _).mono ?_;rintro e w5 ⟨rfl,rfl⟩;go_wp2_with fail;go_roundw
     case rel=>exact⟨k+1,_,by omega,by go_num,rfl,by rw[HNX.out];exact blk_setCell HWANT.out _,(blk_other _ (by simp;omega)).trans HOWN.out,by rw[HNX.out];simp[B.letter,←HOK.out,←HQ.out],HBR.out.setCell (by show w.heap.size≤w1.heap.size;omega) _⟩
     case measure=>simp[intOf];omega
   ·-- letter 107
    have hcv':((S[k]).toNat:Int)=107:=hcv;clear hcv;obtain⟨q,hq⟩:∃q:Bool,decide (0≤x.b∧x.b≤7)=q:=⟨_,rfl⟩;have HQ:=hd' hq;clear hq
    cases ok with
    | false=>
     go_wp2_with fail;go_roundw
     case rel=>exact⟨k+1,_,by omega,by go_num,rfl,by rw[HNX.out];exact blk_setCell HWANT.out _,(blk_other _ (by simp;omega)).trans HOWN.out,by rw[HNX.out];simp[B.letter,←HOK.out],HBR.out.setCell (by show w.heap.size≤w1.heap.size;omega) _⟩
     case measure=>simp[intOf];omega
    | true=>
     go_wp2_with fail;refine(from_b _ _ _ q HQ.out _).mono ?_;rintro e w5 ⟨rfl,rfl⟩;go_wp2_with fail;go_roundw
     case rel=>exact⟨k+1,_,by omega,by go_num,rfl,by rw[HNX.out];exact blk_setCell HWANT.out _,(blk_other _ (by simp;omega)).trans HOWN.out,by rw[HNX.out];simp[B.letter,←HOK.out,←HQ.out],HBR.out.setCell (by show w.heap.size≤w1.heap.size;omega) _⟩
     case measure=>simp[intOf];omega
   ·-- letter 110
    have hcv':((S[k]).toNat:Int)=110:=hcv;clear hcv;obtain⟨q,hq⟩:∃q:Bool,decide (1≤x.n∧x.n≤8)=q:=⟨_,rfl⟩;have HQ:=hd' hq;clear hq
    cases ok with
    | false=>
     go_wp2_with fail;go_roundw
     case rel=>exact⟨k+1,_,by omega,by go_num,rfl,by rw[HNX.out];exact blk_setCell HWANT.out _,(blk_other _ (by simp;omega)).trans HOWN.out,by rw[HNX.out];simp[B.letter,←HOK.out],HBR.out.setCell (by show w.heap.size≤w1.heap.size;omega) _⟩
     case measure=>simp[intOf];omega
    | true=>
     have hbb:=HOKN.out rfl rfl;obtain⟨q2,hq2⟩:∃q2:Bool,decide (x.b+x.n≤8)=q2:=⟨_,rfl⟩;have HQ2:=hd' hq2
     cases q with
     | false=>
      go_wp2_with fail;refine(from_b _ _ _ false HQ.out _).mono ?_;rintro e w5 ⟨rfl,rfl⟩;clear hq2;go_wp2_with fail;go_roundw
      case rel=>exact⟨k+1,_,by omega,by go_num,rfl,by rw[HNX.out];exact blk_setCell HWANT.out _,(blk_other _ (by simp;omega)).trans HOWN.out,by rw[HNX.out];simp only[B.letter,←HOK.out,HQ.out];rfl,HBR.out.setCell (by show w.heap.size≤w1.heap.size;omega) _⟩
      case measure=>simp[intOf];omega
     | true=>
      have hnn:1≤x.n∧x.n≤8:=of_decide_eq_true HQ.out;obtain⟨hn0,hn1⟩:=hnn;obtain⟨hb0,hb1⟩:=hbb;go_wp2_with fail;refine(from_b _ _ _ true HQ.out _).mono ?_;rintro e w5 ⟨rfl,rfl⟩;go_wp2_with fail;go_roundw
      case rel=>exact⟨k+1,_,by omega,by go_num,rfl,by rw[HNX.out];exact blk_setCell HWANT.out _,(blk_other _ (by simp;omega)).trans HOWN.out,by rw[HNX.out];simp[B.letter,←HOK.out,HQ.out,HQ2.out],HBR.out.setCell (by show w.heap.size≤w1.heap.size;omega) _⟩
      case measure=>simp[intOf];omega
   ·-- letter 115
    have hcv':((S[k]).toNat:Int)=115:=hcv;clear hcv;obtain⟨q,hq⟩:∃q:Bool,decide (0≤x.b∧x.b≤63)=q:=⟨_,rfl⟩;have HQ:=hd' hq;clear hq
    cases ok with
    | false=>
     go_wp2_with fail;go_roundw
     case rel=>exact⟨k+1,_,by omega,by go_num,rfl,by rw[HNX.out];exact blk_setCell HWANT.out _,(blk_other _ (by simp;omega)).trans HOWN.out,by rw[HNX.out];simp[B.letter,←HOK.out],HBR.out.setCell (by show w.heap.size≤w1.heap.size;omega) _⟩
     case measure=>simp[intOf];omega
    | true=>
     go_wp2_with fail;refine(from_b _ _ _ q HQ.out _).mono ?_;rintro e w5 ⟨rfl,rfl⟩;go_wp2_with fail;go_roundw
     case rel=>exact⟨k+1,_,by omega,by go_num,rfl,by rw[HNX.out];exact blk_setCell HWANT.out _,(blk_other _ (by simp;omega)).trans HOWN.out,by rw[HNX.out];simp[B.letter,←HOK.out,←HQ.out],HBR.out.setCell (by show w.heap.size≤w1.heap.size;omega) _⟩
     case measure=>simp[intOf];omega
   ·-- letter 104
    have hcv':((S[k]).toNat:Int)=104:=hcv;clear hcv;obtain⟨q,hq⟩:∃q:Bool,decide (0≤x.n∧x.n≤63)=q:=⟨_,rfl⟩;have HQ:=hd' hq;clear hq
    cases ok with
    | false=>
     go_wp2_with fail;go_roundw
     case rel=>exact⟨k+1,_,by omega,by go_num,rfl,by rw[HNX.out];exact blk_setCell HWANT.out _,(blk_other _ (by simp;omega)).trans HOWN.out,by rw[HNX.out];simp[B.letter,←HOK.out],HBR.out.setCell (by show w.heap.size≤w1.heap.size;omega) _⟩
     case measure=>simp[intOf];omega
    | true=>
     go_wp2_with fail;refine(from_b _ _ _ q HQ.out _).mono ?_;rintro e w5 ⟨rfl,rfl⟩;go_wp2_with fail;go_roundw
     case rel=>exact⟨k+1,_,by omega,by go_num,rfl,by rw[HNX.out];exact blk_setCell HWANT.out _,(blk_other _ (by simp;omega)).trans HOWN.out,by rw[HNX.out];simp[B.letter,←HOK.out,←HQ.out],HBR.out.setCell (by show w.heap.size≤w1.heap.size;omega) _⟩
     case measure=>simp[intOf];omega
   ·-- letter 119
    have hcv':((S[k]).toNat:Int)=119:=hcv;clear hcv;obtain⟨q,hq⟩:∃q:Bool,decide (1≤x.n∧x.n≤64)=q:=⟨_,rfl⟩;have HQ:=hd' hq;clear hq
    cases ok with
    | false=>
     go_wp2_with fail;go_roundw
     case rel=>exact⟨k+1,_,by omega,by go_num,rfl,by rw[HNX.out];exact blk_setCell HWANT.out _,(blk_other _ (by simp;omega)).trans HOWN.out,by rw[HNX.out];simp[B.letter,←HOK.out],HBR.out.setCell (by show w.heap.size≤w1.heap.size;omega) _⟩
     case measure=>simp[intOf];omega
    | true=>
     go_wp2_with fail;refine(from_b _ _ _ q HQ.out _).mono ?_;rintro e w5 ⟨rfl,rfl⟩;go_wp2_with fail;go_roundw
     case rel=>exact⟨k+1,_,by omega,by go_num,rfl,by rw[HNX.out];exact blk_setCell HWANT.out _,(blk_other _ (by simp;omega)).trans HOWN.out,by rw[HNX.out];simp[B.letter,←HOK.out,←HQ.out],HBR.out.setCell (by show w.heap.size≤w1.heap.size;omega) _⟩
     case measure=>simp[intOf];omega
   ·-- letter 106
    have hcv':((S[k]).toNat:Int)=106:=hcv;clear hcv;obtain⟨q,hq⟩:∃q:Bool,decide (0≤x.n∧x.n≤16384)=q:=⟨_,rfl⟩;have HQ:=hd' hq;clear hq
    cases ok with
    | false=>
     go_wp2_with fail;go_roundw
     case rel=>exact⟨k+1,_,by omega,by go_num,rfl,by rw[HNX.out];exact blk_setCell HWANT.out _,(blk_other _ (by simp;omega)).trans HOWN.out,by rw[HNX.out];simp[B.letter,←HOK.out],HBR.out.setCell (by show w.heap.size≤w1.heap.size;omega) _⟩
     case measure=>simp[intOf];omega
    | true=>
     go_wp2_with fail;refine(from_b _ _ _ q HQ.out _).mono ?_;rintro e w5 ⟨rfl,rfl⟩;go_wp2_with fail;go_roundw
     case rel=>exact⟨k+1,_,by omega,by go_num,rfl,by rw[HNX.out];exact blk_setCell HWANT.out _,(blk_other _ (by simp;omega)).trans HOWN.out,by rw[HNX.out];simp[B.letter,←HOK.out,←HQ.out],HBR.out.setCell (by show w.heap.size≤w1.heap.size;omega) _⟩
     case measure=>simp[intOf];omega
   ·-- letter 105
    have hcv':((S[k]).toNat:Int)=105:=hcv;clear hcv;go_wp2_with fail;go_roundw
    case rel=>exact⟨k+1,_,by omega,by go_num,rfl,by rw[HNX.out];exact blk_setCell HWANT.out _,(blk_other _ (by simp;omega)).trans HOWN.out,by rw[HNX.out,HOK.out];rfl,HBR.out.setCell (by show w.heap.size≤w1.heap.size;omega) _⟩
    case measure=>simp[intOf];omega
   ·-- letter 103
    have hcv':((S[k]).toNat:Int)=103:=hcv;clear hcv;obtain⟨q,hq⟩:∃q:Bool,decide (x.imm≤1)=q:=⟨_,rfl⟩;have HQ:=hd' hq
    cases ok with
    | true=>
     go_wp2_with fail;go_roundw
     case rel=>exact⟨k+1,_,by omega,by go_num,rfl,by rw[HNX.out];exact blk_setCell HWANT.out _,(blk_other _ (by simp;omega)).trans HOWN.out,by rw[HNX.out];simp[B.letter,←HOK.out,HQ.out],HBR.out.setCell (by show w.heap.size≤w1.heap.size;omega) _⟩
     case measure=>simp[intOf];omega
    | false=>
     go_wp2_with fail;go_roundw
     case rel=>exact⟨k+1,_,by omega,by go_num,rfl,by rw[HNX.out];exact blk_setCell HWANT.out _,(blk_other _ (by simp;omega)).trans HOWN.out,by rw[HNX.out];simp[B.letter,←HOK.out],HBR.out.setCell (by show w.heap.size≤w1.heap.size;omega) _⟩
     case measure=>simp[intOf];omega
   ·-- letter 63
    have hcv':((S[k]).toNat:Int)=63:=hcv;clear hcv;go_wp2_with fail;go_roundw
    case rel=>exact⟨k+1,_,by omega,by go_num,rfl,by rw[HNX.out];exact HWANT.out,HOWN.out,by rw[HNX.out,HOK.out];rfl,HBR.out⟩
    case measure=>simp[intOf];omega
  ·obtain rfl:k=S.size:=by omega
   have htk:(B.letters x.op).take S.size=B.letters x.op:=List.take_of_length_le (by rw[HSZ.out];exact Nat.le_refl _);rw[htk]at hwant hok;have hrt:x.right=((B.refSt x (B.letters x.op)).2&&decide (x=(B.refSt x (B.letters x.op)).1)):=HRT.out.symm;generalize B.refSt x (B.letters x.op)=st at*;have g0:wr.cell? ⟨w.heap.size,0,none⟩=some (.int .i64 x.op):=(cell_of_row _ _ _ _ _ _ hown).trans rfl;have g1:wr.cell? ⟨w.heap.size,1,none⟩=some (.int .i64 x.a):=(cell_of_row _ _ _ _ _ _ hown).trans rfl;have g2:wr.cell? ⟨w.heap.size,2,none⟩=some (.int .i64 x.b):=(cell_of_row _ _ _ _ _ _ hown).trans rfl;have g3:wr.cell? ⟨w.heap.size,3,none⟩=some (.int .i64 x.n):=(cell_of_row _ _ _ _ _ _ hown).trans rfl;have g4:wr.cell? ⟨w.heap.size,4,none⟩=some (.int .u64 x.imm):=(cell_of_row _ _ _ _ _ _ hown).trans rfl
   have v0:wr.cell? ⟨w1.heap.size,0,none⟩=some (.int .i64 st.1.op):=(cell_of_row _ _ _ _ _ _ hwant).trans rfl;have v1:wr.cell? ⟨w1.heap.size,1,none⟩=some (.int .i64 st.1.a):=(cell_of_row _ _ _ _ _ _ hwant).trans rfl;have v2:wr.cell? ⟨w1.heap.size,2,none⟩=some (.int .i64 st.1.b):=(cell_of_row _ _ _ _ _ _ hwant).trans rfl;have v3:wr.cell? ⟨w1.heap.size,3,none⟩=some (.int .i64 st.1.n):=(cell_of_row _ _ _ _ _ _ hwant).trans rfl;have v4:wr.cell? ⟨w1.heap.size,4,none⟩=some (.int .u64 st.1.imm):=(cell_of_row _ _ _ _ _ _ hwant).trans rfl;have HBR:=hd' hbr;have HOKV:=hd' hok;have HRV:=hd' hrt;clear hwant hown hbr hok hrt htk
   cases ok with
   | false=>
    go_wp2_with fail;go_ret;refine⟨ret_int ?_,HBR.out⟩;rw[HRV.out,←HOKV.out];rfl
   | true=>
    by_cases he:x=st.1
    ·obtain⟨y,ok'⟩:=st
     simp only at he;subst he;go_wp2_with fail;go_ret;refine⟨ret_int ?_,HBR.out⟩;rw[HRV.out,←HOKV.out];simp
    ·obtain⟨y,ok'⟩:=st
     have hr0:x.right=false:=by rw[HRV.out,←HOKV.out];simpa using he
     have HE:=hd' he;have HR0:=hd' hr0;clear he hr0;go_wp2_with fail
     all_goals go_ret
     all_goals first
      | (refine⟨ret_int ?_,HBR.out⟩;rw[HR0.out];rfl)
      | (exfalso;refine HE.out ?_;cases x;cases y;simp_all)
  end Code
  end Go.Proofs.YtpibampaobncaaaGreatDoor
