/- Plain Lean: signals, where their bits lie, and the programs that lay and read them. -/
import Derived.Test.YtljhklblbafjkaaGreatDoorPlainQ
import Derived.Lib.ValidU
import Derived.Shelf.GgClosure.StringsIndexFuncTop
namespace Go.Proofs.YtljhklblbafjkaaGreatDoor.B
structure Rt where
 num:Int
 den:Int
structure Sig where
 line:Int
 col:Int
 name:ByteArray
 role:Int
 branch:Int
 start:Int
 size:Int
 moto:Bool
 signed:Bool
 scale:Rt
 offset:Rt
 min:Rt
 max:Rt
 unit:ByteArray
 dest:List ByteArray
structure Msg where
 line:Int
 col:Int
 id:Int
 wide:Bool
 name:ByteArray
 size:Int
 sender:ByteArray
 sigs:List Sig
def nextB(moto:Bool)(b:Nat):Nat:=if moto=true then(if b%8=0 then b+15 else b-1)else b+1
def rowFrom(moto:Bool):Nat→Nat→List Nat
 | _,0=>[]
 | b,n+1=>b::rowFrom moto (nextB moto b) n
def rank(moto:Bool)(b:Nat):Nat:=if moto=true then 8*(b/8)+(7-b%8)else b
theorem rank_next(moto:Bool)(b:Nat):rank moto (nextB moto b)=rank moto b+1:=by
 unfold rank nextB
 cases moto with
 | false=>simp
 | true=>
  simp only[if_true]
  split<;>omega
theorem rowFrom_length(moto:Bool):∀n b,(rowFrom moto b n).length=n
 | 0,_=>rfl
 | n+1,b=>by simp[rowFrom,rowFrom_length moto n]
theorem rowFrom_rank(moto:Bool):∀n b x,x∈rowFrom moto b n→rank moto b≤rank moto x
 | 0,_,_,h=>by simp[rowFrom]at h
 | n+1,b,x,h=>by
  rcases List.mem_cons.1 h with rfl | h
  ·exact Nat.le_refl _
  ·have:=rowFrom_rank moto n _ x h
   rw[rank_next]at this;omega
theorem rowFrom_nodup(moto:Bool):∀n b,(rowFrom moto b n).Nodup
 | 0,_=>List.nodup_nil
 | n+1,b=>by
  refine List.nodup_cons.2 ⟨fun h=> ?_,rowFrom_nodup moto n _⟩;have:=rowFrom_rank moto n _ b h;rw[rank_next]at this;omega
theorem rowFrom_snoc(moto:Bool):∀n b,rowFrom moto b (n+1)=rowFrom moto b n++[Nat.repeat (nextB moto) n b]
 | 0,b=>rfl
 | n+1,b=>by
  show b::rowFrom moto (nextB moto b) (n+1)=b::rowFrom moto (nextB moto b) n++_
  rw[rowFrom_snoc moto n]
  have:∀n b,Nat.repeat (nextB moto) n (nextB moto b)=Nat.repeat (nextB moto) (n+1) b:=by
   intro n
   induction n with
   | zero=>intro b;rfl
   | succ n ih=>intro b;show nextB moto (Nat.repeat (nextB moto) n (nextB moto b))=_;rw[ih];rfl
  rw[this];rfl
def Sig.placeNo(s:Sig):Int:=
 if s.size<1∨64<s.size then 15 else if s.start<0∨63<s.start then 16
 else if(rowFrom s.moto s.start.toNat s.size.toNat).all (fun b=>decide (b≤63))=true then 0 else 16
def Sig.bits(s:Sig):List Nat:=
 if s.moto=true then(rowFrom s.moto s.start.toNat s.size.toNat).reverse else rowFrom s.moto s.start.toNat s.size.toNat
theorem Sig.bits_length(s:Sig):s.bits.length=s.size.toNat:=by
 unfold Sig.bits;split<;>simp[rowFrom_length]
theorem Sig.bits_nodup(s:Sig):s.bits.Nodup:=by
 unfold Sig.bits;split
 ·exact List.pairwise_reverse.2 ((rowFrom_nodup _ _ _).imp fun h=>h.symm)
 ·exact rowFrom_nodup _ _ _
theorem Sig.bits_mem(s:Sig)(b:Nat):b∈s.bits↔b∈rowFrom s.moto s.start.toNat s.size.toNat:=by
 unfold Sig.bits;split<;>simp
theorem Sig.place_ok{s:Sig}(h:s.placeNo=0):(1≤s.size∧s.size≤64)∧(0≤s.start∧s.start≤63)∧∀b∈s.bits,b≤63:=by
 unfold Sig.placeNo at h;split at h
 ·omega
 ·split at h
  ·omega
  ·split at h
   ·rename_i h3
    refine⟨by omega,by omega,fun b hb=> ?_⟩;have:=List.all_eq_true.1 h3 b ((s.bits_mem b).1 hb);simpa using this
   ·omega
def Sig.whereNo(s:Sig)(size:Int):Int:=
 if s.placeNo≠0 then s.placeNo else if s.bits.all (fun b=>decide ((b:Int)<8*Min.min (Max.max size 0) 8))=true then 0 else 16
theorem Sig.where_ok{s:Sig}{size:Int}(h:s.whereNo size=0)(hz:0≤size∧size≤8):s.placeNo=0∧∀b∈s.bits,(b:Int)<8*size:=by
 unfold Sig.whereNo at h;split at h
 ·rename_i h1;exact absurd h h1
 ·rename_i h1
  split at h
  ·rename_i h3
   refine⟨by simpa using h1,fun b hb=> ?_⟩;have:=List.all_eq_true.1 h3 b hb
   have h4:Min.min (Max.max size 0) 8=size:=by omega
   rw[h4]at this;simpa using this
  ·omega
def flatI{α:Type}(f:Nat→α→List Ins):Nat→List α→List Ins
 | _,[]=>[]
 | k,x::r=>f k x++flatI f (k+1) r
theorem flatI_append{α:Type}(f:Nat→α→List Ins):∀(l r:List α) (k:Nat),flatI f k (l++r)=flatI f k l++flatI f (k+l.length) r
 | [],r,k=>rfl
 | x::l,r,k=>by
  show f k x++flatI f (k+1) (l++r)=f k x++flatI f (k+1) l++_
  rw[flatI_append f l r (k+1),List.append_assoc,List.length_cons,show k+1+l.length=k+(l.length+1) by omega]
def shiftI(r:Int)(from' to':Nat):List Ins:=
 if to'<from' then [⟨7,r,0,(from':Int)-to',0⟩]else if from'<to' then [⟨6,r,0,(to':Int)-from',0⟩]else []
def layBit(k b:Nat):List Ins:=⟨2,2,1,0,0⟩::(shiftI 2 k (b%8)++[⟨13,2,((b/8:Nat):Int),1,((2^(b%8):Nat):Int)⟩])
def Sig.layI(s:Sig)(i:Nat):List Ins:=
 ⟨15,1,(i:Int),0,0⟩::⟨17,1,(i:Int),s.size,if s.signed=true then 1 else 0⟩::flatI layBit 0 s.bits
def readBit(r:Int)(k b:Nat):List Ins:=
 ⟨9,2,((b/8:Nat):Int),1,0⟩::⟨8,2,0,0,((2^(b%8):Nat):Int)⟩::(shiftI 2 (b%8) k++[⟨4,r,2,0,0⟩])
def Sig.readI(s:Sig)(r:Int):List Ins:=
 ⟨1,r,0,0,0⟩::(flatI (readBit r) 0 s.bits++if s.signed=true then [⟨14,r,0,s.size,0⟩]else [])
def Sig.branchI(s:Sig)(l:List Ins):List Ins:=if s.role=2 then⟨19,0,0,(l.length:Int),s.branch⟩::l else l
def muxI(l:List Sig):Option Nat:=(List.range l.length).find? fun i=>match l[i]? with
 | some s=>decide (s.role=1)
 | none=>false
def Msg.packHead(m:Msg):List Ins:=
 (if 0<m.size then [⟨1,2,0,0,0⟩,⟨11,2,0,m.size,0⟩]else [])++match muxI m.sigs with
  | some i=>[⟨15,0,(i:Int),0,0⟩]
  | none=>[]
def packSig(i:Nat)(s:Sig):List Ins:=s.branchI (s.layI i)
def Msg.packI(m:Msg):List Ins:=m.packHead++flatI packSig 0 m.sigs
def Msg.unpackHead(m:Msg):List Ins:=match muxI m.sigs with
 | some i=>match m.sigs[i]? with
  | some s=>s.readI 0
  | none=>[]
 | none=>[]
def unpackSig(i:Nat)(s:Sig):List Ins:=s.branchI (s.readI 1++[⟨16,1,(i:Int),0,0⟩])
def Msg.unpackI(m:Msg):List Ins:=m.unpackHead++flatI unpackSig 0 m.sigs
end Go.Proofs.YtljhklblbafjkaaGreatDoor.B
namespace Go.Proofs.YtljhklblbafjkaaGreatDoor.B
def Seg(l:List Ins)(inp:List Nat)(s s':St):Prop:=
 ∀(pre post:List Ins) (s0:St) (n:Nat),RunTo (pre++l++post) inp s0 pre.length s n→∃n',RunTo (pre++l++post) inp s0 (pre.length+l.length) s' n'
def SegFail(l:List Ins)(inp:List Nat)(s:St)(j:Int):Prop:=
 ∀(pre post:List Ins) (s0:St) (n:Nat),RunTo (pre++l++post) inp s0 pre.length s n→(run (pre++l++post) inp 0 s0).failed=some j
variable {inp:List Nat}
theorem Seg.nil(s:St):Seg [] inp s s:=fun pre post s0 n h=>⟨n,by simpa using h⟩
theorem at_mid(pre l post:List Ins)(x:Ins):(pre++x::l++post)[pre.length]? =some x:=by simp
theorem Seg.append{a b:List Ins}{s s1 s2:St}(h1:Seg a inp s s1)(h2:Seg b inp s1 s2):Seg (a++b) inp s s2:=by
 intro pre post s0 n h
 have e1:pre++(a++b)++post=pre++a++(b++post):=by simp
 have e2:pre++(a++b)++post=(pre++a)++b++post:=by simp
 rw[e1]at h;obtain⟨n1,h⟩:=h1 _ _ _ _ h;rw[←e1,e2,←List.length_append]at h;obtain⟨n2,h⟩:=h2 _ _ _ _ h;rw[←e2]at h;refine⟨n2, ?_⟩;rw[List.length_append,←Nat.add_assoc,←List.length_append];exact h
theorem Seg.one{x:Ins}{s s':St}(he:x.exec inp s= .go 0 s'):Seg [x] inp s s':=fun _ _ _ n h=>⟨n+1,h.step (at_mid _ _ _ _) he⟩
theorem Seg.cons{x:Ins}{l:List Ins}{s s1 s':St}(he:x.exec inp s= .go 0 s1)(h:Seg l inp s1 s'):Seg (x::l) inp s s':=(Seg.one he).append h
theorem Seg.skip{x:Ins}{l:List Ins}{s s':St}(he:x.exec inp s= .go l.length s'):Seg (x::l) inp s s':=fun pre post s0 n h=>⟨n+1,by
 have:=h.step (at_mid _ _ _ _) he;rw[List.length_cons,show pre.length+(l.length+1)=pre.length+1+l.length by omega]
 exact this⟩
theorem SegFail.one{x:Ins}{l:List Ins}{s:St}{j:Int}(he:x.exec inp s= .fail j):SegFail (x::l) inp s j:=fun _ _ _ _ h=>by rw[h.fail (at_mid _ _ _ _) he]
theorem SegFail.left{a b:List Ins}{s:St}{j:Int}(h1:SegFail a inp s j):SegFail (a++b) inp s j:=by
 intro pre post s0 n h
 have e1:pre++(a++b)++post=pre++a++(b++post):=by simp
 rw[e1]at h⊢;exact h1 _ _ _ _ h
theorem SegFail.right{a b:List Ins}{s s1:St}{j:Int}(h1:Seg a inp s s1)(h2:SegFail b inp s1 j):SegFail (a++b) inp s j:=by
 intro pre post s0 n h
 have e1:pre++(a++b)++post=pre++a++(b++post):=by simp
 have e2:pre++(a++b)++post=(pre++a)++b++post:=by simp
 rw[e1]at h;obtain⟨n1,h⟩:=h1 _ _ _ _ h;rw[←e1,e2,←List.length_append]at h;rw[e2];exact h2 _ _ _ _ h
theorem SegFail.cons{x:Ins}{l:List Ins}{s s1:St}{j:Int}(he:x.exec inp s= .go 0 s1)(h:SegFail l inp s1 j):SegFail (x::l) inp s j:=SegFail.right (Seg.one he) h
theorem Seg.run{p:List Ins}{s s':St}(h:Seg p inp s s'):∃n,run p inp 0 s=⟨none,s',n⟩:=by
 obtain⟨n,hn⟩:=h [] [] s 0 (RunTo.zero _ _ _);simp only[List.nil_append,List.append_nil,List.length_nil,Nat.zero_add]at hn;exact⟨n,hn.done (Nat.le_refl _)⟩
theorem SegFail.run{p:List Ins}{s:St}{j:Int}(h:SegFail p inp s j):(B.run p inp 0 s).failed=some j:=by
 have:=h [] [] s 0 (RunTo.zero _ _ _);simpa using this
def payBit(p:List Nat)(j:Nat):Bool:=(p.getD (j/8) 0).testBit (j%8)
theorem testBit_lt256{o j:Nat}(h:o<256)(hj:8≤j):o.testBit j=false:=
 Nat.testBit_lt_two_pow (Nat.lt_of_lt_of_le h (by rw[show 256=2^8 by rfl];exact Nat.pow_le_pow_right (by omega) hj))
theorem testBit_255{j:Nat}(h:j<8):(255:Nat).testBit j=true:=by
 have:(2^8-1:Nat).testBit j=decide (j<8):=Nat.testBit_two_pow_sub_one 8 j;simpa[h]using this
theorem blend_bit{o w c j:Nat}(ho:o<256)(hc:c<8):(blendByte o (byteOf w 0) (byteOf (2^c) 0)).testBit j=if j=c then w.testBit c else o.testBit j:=by
 have hm:byteOf (2^c) 0=2^c:=by
  unfold byteOf;have:2^c<2^8:=Nat.pow_lt_pow_right (by omega) hc;simp only[Nat.pow_zero,Nat.div_one];exact Nat.mod_eq_of_lt this
 have hb:(byteOf w 0).testBit c=w.testBit c:=by
  unfold byteOf;simp only[Nat.pow_zero,Nat.div_one];rw[show 256=2^8 by rfl,Nat.testBit_mod_two_pow];simp[hc]
 unfold blendByte;rw[hm,Nat.testBit_or,Nat.testBit_and,Nat.testBit_and,Nat.testBit_xor,Nat.testBit_two_pow]
 by_cases e:j=c
 ·subst e
  rw[if_pos rfl,testBit_255 hc,hb];simp
 ·rw[if_neg e]
  have:decide (c=j)=false:=by simp;omega
  rw[this]
  by_cases h8:j<8
  ·rw[testBit_255 h8];simp
  ·rw[testBit_lt256 ho (by omega)];simp
structure LayRel(s s':St):Prop where
 r0:s'.r 0=s.r 0
 r1:s'.r 1=s.r 1
 out:s'.out=s.out
 has:s'.has=s.has
 len:s'.pay.length=s.pay.length
 bytes:Bytes s.pay→Bytes s'.pay
theorem LayRel.refl(s:St):LayRel s s:=⟨rfl,rfl,rfl,rfl,rfl,id⟩
theorem LayRel.trans{a b c:St}(h:LayRel a b)(g:LayRel b c):LayRel a c:=
 ⟨g.r0.trans h.r0,g.r1.trans h.r1,g.out.trans h.out,g.has.trans h.has,g.len.trans h.len,fun x=>g.bytes (h.bytes x)⟩
theorem LayRel.moved(s:St)(v:Nat):LayRel s (s.set 2 v):=⟨rfl,rfl,rfl,rfl,rfl,id⟩
theorem shift_seg(s:St)(f t:Nat)(hf:f≤63)(ht:t≤63):∃w,Seg (shiftI 2 f t) inp s (s.set 2 w)∧w.testBit t=(s.r 2).testBit f:=by
 unfold shiftI
 by_cases h1:t<f
 ·rw[if_pos h1]
  refine⟨s.r 2/2^(f-t),Seg.one ?_, ?_⟩
  ·have:=exec_7 (a:=2) (b:=0) (n:=f-t) (m:=0) (inp:=inp) (s:=s)
   rw[Int.ofNat_sub (by omega)]at this;exact this
  ·rw[Nat.testBit_div_two_pow]
   congr 1;omega
 ·rw[if_neg h1]
  by_cases h2:f<t
  ·rw[if_pos h2]
   refine⟨shl64 (s.r 2) (t-f),Seg.one ?_, ?_⟩
   ·have:=exec_6 (a:=2) (b:=0) (n:=t-f) (m:=0) (inp:=inp) (s:=s)
    rw[Int.ofNat_sub (by omega)]at this;exact this
   ·unfold shl64
    rw[show 18446744073709551616=2^64 by rfl,Nat.testBit_mod_two_pow,Nat.testBit_mul_two_pow]
    have e1:t-(t-f)=f:=by omega
    have e2:t≥t-f:=by omega
    have e3:t<64:=by omega
    simp[e1,e3]
  ·rw[if_neg h2]
   have e:f=t:=by omega
   subst e;refine⟨s.r 2, ?_,rfl⟩
   have:s.set 2 (s.r 2)=s:=by
    unfold St.set;cases s;simp only[St.mk.injEq,and_true]
    funext j
    split
    ·rename_i h;rw[h]
    ·rfl
   rw[this];exact Seg.nil s
theorem layBit_seg(s:St)(k b:Nat)(hk:k≤63)(hb:b/8<s.pay.length)(hp:Bytes s.pay):
    ∃s',Seg (layBit k b) inp s s'∧LayRel s s'∧∀j,payBit s'.pay j=if j=b then(s.r 1).testBit k else payBit s.pay j:=by
 unfold layBit;obtain⟨w,hs,hw⟩:=shift_seg (inp:=inp) (s.set 2 (s.r 1)) k (b%8) hk (by omega);obtain⟨o,ho⟩:∃o,s.pay[b/8]? =some o:=⟨_,List.getElem?_eq_getElem hb⟩;have ho256:o<256:=hp o (List.mem_of_getElem? ho)
 have hpart:(s.pay.drop (b/8)).take 1=[o]:=by
  rw[List.take_one,List.head?_drop,ho];rfl
 have hx:(⟨13,2,((b/8:Nat):Int),1,((2^(b%8):Nat):Int)⟩:Ins).exec inp ((s.set 2 (s.r 1)).set 2 w)= .go 0 { (s.set 2 (s.r 1)).set 2 w with pay:=patch s.pay (b/8) [blendByte o (byteOf w 0) (byteOf (2^(b%8)) 0)]}:=by
  have:=exec_13 (a:=2) (b:=b/8) (n:=1) (m:=2^(b%8)) (inp:=inp) (s:=(s.set 2 (s.r 1)).set 2 w);refine this.trans ?_;have e1:((s.set 2 (s.r 1)).set 2 w).pay=s.pay:=rfl;rw[e1,hpart];rfl
 have hlt:blendByte o (byteOf w 0) (byteOf (2^(b%8)) 0)<256:=blend_lt ho256 (byteOf_lt _ _);refine⟨_,Seg.cons (exec_2 (a:=2) (b:=1) (n:=0) (m:=0)) (hs.append (Seg.one hx)),⟨rfl,rfl,rfl,rfl,patch_length (by simp;omega),fun _=>patch_bytes hp (fun x hx=> ?_)⟩,fun j=> ?_⟩
 ·rw[List.mem_singleton.1 hx];exact hlt
 ·show payBit (patch s.pay (b/8) _) j=_
  unfold payBit;simp only[List.getD_eq_getElem?_getD];rw[patch_get (by simp;omega)]
  by_cases e:j/8=b/8
  ·rw[e,if_pos (by simp),Nat.sub_self,ho]
   simp only[List.getElem?_cons_zero,Option.getD_some];rw[blend_bit ho256 (by omega)]
   have e2:(j%8=b%8)↔(j=b):=by omega
   by_cases e3:j=b
   ·rw[if_pos (e2.2 e3),if_pos e3,hw]
    rfl
   ·rw[if_neg (fun h=>e3 (e2.1 h)),if_neg e3]
  ·rw[if_neg (by simp;omega),if_neg (by omega)]
def layF(v:Nat):Nat→List Nat→(Nat→Bool)→Nat→Bool
 | _,[],f=>f
 | k,b::r,f=>layF v (k+1) r fun j=>if j=b then v.testBit k else f j
theorem layF_out(v:Nat):∀(l:List Nat) (k:Nat) (f:Nat→Bool) (j:Nat),j∉l→layF v k l f j=f j
 | [],_,_,_,_=>rfl
 | b::r,k,f,j,h=>by
  show layF v (k+1) r _ j=_
  rw[layF_out v r (k+1) _ j (fun hj=>h (List.mem_cons_of_mem _ hj)),if_neg (fun e=>h (by rw[e];exact List.mem_cons_self))]
theorem layF_in(v:Nat):∀(l:List Nat) (k i:Nat) (f:Nat→Bool) (j:Nat),l.Nodup→l[i]? =some j→layF v k l f j=v.testBit (k+i)
 | [],_,_,_,_,_,h=>by simp at h
 | b::r,k,0,f,j,hn,h=>by
  simp at h;subst h
  show layF v (k+1) r _ b=_
  rw[layF_out v r _ _ _ (List.nodup_cons.1 hn).1];simp
 | b::r,k,i+1,f,j,hn,h=>by
  show layF v (k+1) r _ j=_
  rw[layF_in v r (k+1) i _ j (List.nodup_cons.1 hn).2 (by simpa using h)];congr 1;omega
theorem layF_congr(v:Nat):∀(l:List Nat) (k:Nat) (f g:Nat→Bool),(∀j,f j=g j)→∀j,layF v k l f j=layF v k l g j
 | [],_,_,_,h,j=>h j
 | b::r,k,f,g,h,j=>layF_congr v r (k+1) _ _ (fun j=>by simp only[h]) j
theorem layBits_seg:∀(l:List Nat) (k:Nat) (s:St),k+l.length≤64→(∀b∈l,b/8<s.pay.length)→Bytes s.pay→
    ∃s',Seg (flatI layBit k l) inp s s'∧LayRel s s'∧∀j,payBit s'.pay j=layF (s.r 1) k l (payBit s.pay) j
 | [],_,s,_,_,_=>⟨s,Seg.nil s,LayRel.refl s,fun _=>rfl⟩
 | b::r,k,s,hk,hb,hp=>by
  rw[List.length_cons]at hk;obtain⟨s1,g1,l1,b1⟩:=layBit_seg (inp:=inp) s k b (by omega) (hb b List.mem_cons_self) hp;obtain⟨s2,g2,l2,b2⟩:=layBits_seg r (k+1) s1 (by omega) (fun x hx=>by rw[l1.len];exact hb x (List.mem_cons_of_mem _ hx)) (l1.bytes hp);refine⟨s2,g1.append g2,l1.trans l2,fun j=> ?_⟩;rw[b2 j,l1.r1];exact layF_congr _ _ _ _ _ b1 j
def Sig.active(s:Sig)(at':Nat):Bool:= !decide (s.role=2)||decide (s.branch=(at':Int))
def packTo(inp:List Nat)(at':Nat):Nat→List Sig→(Nat→Bool)→Except Nat (Nat→Bool)
 | _,[],f=>.ok f
 | i,s::r,f=>
  if s.active at'=true then
   if fits (inp.getD i 0) s.size.toNat s.signed=true then packTo inp at' (i+1) r (layF (inp.getD i 0) 0 s.bits f)else .error i
  else packTo inp at' (i+1) r f
structure Sig.InPay(s:Sig)(size:Nat):Prop where
 place:s.placeNo=0
 bits:∀b∈s.bits,b/8<size
 branch:s.role=2→0≤s.branch
theorem InPay.size{s:Sig}{z:Nat}(h:s.InPay z):s.bits.length=s.size.toNat∧1≤s.size∧s.size≤64:=⟨s.bits_length,(Sig.place_ok h.place).1.1,(Sig.place_ok h.place).1.2⟩
theorem layI_seg(sg:Sig)(i:Nat)(s:St)(h:sg.InPay s.pay.length)(hp:Bytes s.pay):
    (fits (inp.getD i 0) sg.size.toNat sg.signed=true→∃s',Seg (sg.layI i) inp s s'∧s'.r 0=s.r 0∧s'.out=s.out∧s'.has=s.has∧s'.pay.length=s.pay.length∧Bytes s'.pay∧∀j,payBit s'.pay j=layF (inp.getD i 0) 0 sg.bits (payBit s.pay) j)∧
    (fits (inp.getD i 0) sg.size.toNat sg.signed=false→SegFail (sg.layI i) inp s i):=by
 have e15:(⟨15,1,(i:Int),0,0⟩:Ins).exec inp s= .go 0 (s.set 1 (inp.getD i 0)):=exec_15 (a:=1) (b:=i) (n:=0) (m:=0)
 obtain⟨m,hm,hd⟩:∃m:Nat,(if sg.signed=true then(1:Int)else 0)=(m:Int)∧decide (m=1)=sg.signed:=by
  cases sg.signed
  ·exact⟨0,rfl,rfl⟩
  ·exact⟨1,rfl,rfl⟩
 have hz:=(InPay.size h)
 have hn:sg.size=((sg.size.toNat:Nat):Int):=by omega
 unfold Sig.layI;rw[hm];constructor
 ·intro hf
  have e17:(⟨17,1,(i:Int),sg.size,(m:Int)⟩:Ins).exec inp (s.set 1 (inp.getD i 0))= .go 0 (s.set 1 (inp.getD i 0)):=by
   rw[hn];exact exec_17y (a:=1) (b:=i) (by rw[hd];exact hf)
  obtain⟨s2,g2,l2,b2⟩:=layBits_seg (inp:=inp) sg.bits 0 (s.set 1 (inp.getD i 0)) (by omega) h.bits hp;exact⟨s2,Seg.cons e15 (Seg.cons e17 g2),l2.r0,l2.out,l2.has,l2.len,l2.bytes hp,b2⟩
 ·intro hf
  refine SegFail.cons e15 (SegFail.one ?_);rw[hn];exact exec_17n (a:=1) (b:=i) (by rw[hd];exact hf)
theorem packSigs_seg(at':Nat):∀(l:List Sig) (i:Nat) (s:St),(∀x∈l,x.InPay s.pay.length)→Bytes s.pay→((∃x∈l,x.role=2)→s.r 0=at')→
    match packTo inp at' i l (payBit s.pay)with
    | .error k=>SegFail (flatI packSig i l) inp s k
    | .ok f=>∃s',Seg (flatI packSig i l) inp s s'∧s'.out=s.out∧s'.has=s.has∧s'.pay.length=s.pay.length∧Bytes s'.pay∧∀j,payBit s'.pay j=f j
 | [],i,s,_,hp,_=>⟨s,Seg.nil s,rfl,rfl,rfl,hp,fun _=>rfl⟩
 | x::r,i,s,hx,hp,h0=>by
  have hx1:=hx x List.mem_cons_self
  have hr0:(∃y∈r,y.role=2)→s.r 0=at':=fun⟨y,hy,hy2⟩=>h0 ⟨y,List.mem_cons_of_mem _ hy,hy2⟩
  have hrr:∀s':St,s'.pay.length=s.pay.length→∀y∈r,y.InPay s'.pay.length:=fun s' e y hy=>by rw[e];exact hx y (List.mem_cons_of_mem _ hy)
  obtain⟨ly,ln⟩:=layI_seg (inp:=inp) x i s hx1 hp
  show match packTo inp at' i (x::r) (payBit s.pay)with
   | .error k=>SegFail (packSig i x++flatI packSig (i+1) r) inp s k
   | .ok f=>∃s',Seg (packSig i x++flatI packSig (i+1) r) inp s s'∧s'.out=s.out∧s'.has=s.has∧s'.pay.length=s.pay.length∧Bytes s'.pay∧∀j,payBit s'.pay j=f j
  unfold packTo
  by_cases ha:x.active at'=true
  ·rw[if_pos ha]
   have hpre:∀ {s':St},Seg (x.layI i) inp s s'→Seg (packSig i x) inp s s':=fun {s'} g=>by
    unfold packSig Sig.branchI
    by_cases h2:x.role=2
    ·rw[if_pos h2]
     refine Seg.cons ?_ g
     have hb:x.branch=((x.branch.toNat:Nat):Int):=by have:=hx1.branch h2;omega
     rw[hb];refine exec_19y (a:=0) ?_;have e0:=h0 ⟨x,List.mem_cons_self,h2⟩;unfold Sig.active at ha;simp[h2]at ha;omega
    ·rw[if_neg h2];exact g
   have hpref:∀ {k:Int},SegFail (x.layI i) inp s k→SegFail (packSig i x) inp s k:=fun {k} g=>by
    unfold packSig Sig.branchI
    by_cases h2:x.role=2
    ·rw[if_pos h2]
     refine SegFail.cons ?_ g
     have hb:x.branch=((x.branch.toNat:Nat):Int):=by have:=hx1.branch h2;omega
     rw[hb];refine exec_19y (a:=0) ?_;have e0:=h0 ⟨x,List.mem_cons_self,h2⟩;unfold Sig.active at ha;simp[h2]at ha;omega
    ·rw[if_neg h2];exact g
   by_cases hf:fits (inp.getD i 0) x.size.toNat x.signed=true
   ·rw[if_pos hf]
    obtain⟨s1,g1,r01,o1,a1,n1,p1,b1⟩:=ly hf;have ih:=packSigs_seg at' r (i+1) s1 (hrr s1 n1) p1 (by rw[r01];exact hr0)
    have hcg:packTo inp at' (i+1) r (payBit s1.pay)=packTo inp at' (i+1) r (layF (inp.getD i 0) 0 x.bits (payBit s.pay)):=by
     congr 1
     funext j
     exact b1 j
    rw[hcg]at ih
    revert ih
    cases packTo inp at' (i+1) r (layF (inp.getD i 0) 0 x.bits (payBit s.pay))with
    | error k=>exact fun ih=>SegFail.right (hpre g1) ih
    | ok f=>
     rintro⟨s2,g2,o2,a2,n2,p2,b2⟩;exact⟨s2,(hpre g1).append g2,o2.trans o1,a2.trans a1,n2.trans n1,p2,b2⟩
   ·rw[if_neg hf]
    exact SegFail.left (hpref (ln (by simpa using hf)))
  ·rw[if_neg ha]
   have h2:x.role=2:=by
    unfold Sig.active at ha;simp at ha;exact ha.1
   have hsk:Seg (packSig i x) inp s s:=by
    unfold packSig Sig.branchI;rw[if_pos h2]
    have hb:x.branch=((x.branch.toNat:Nat):Int):=by have:=hx1.branch h2;omega
    rw[hb];refine Seg.skip (exec_19n (a:=0) ?_);have e0:=h0 ⟨x,List.mem_cons_self,h2⟩;unfold Sig.active at ha;simp[h2]at ha;omega
   have ih:=packSigs_seg at' r (i+1) s (hrr s rfl) hp hr0
   revert ih
   cases packTo inp at' (i+1) r (payBit s.pay)with
   | error k=>exact fun ih=>SegFail.right hsk ih
   | ok f=>
    rintro⟨s2,g2,o2,a2,n2,p2,b2⟩;exact⟨s2,hsk.append g2,o2,a2,n2,p2,b2⟩
def Msg.muxV(m:Msg)(inp:List Nat):Nat:=match muxI m.sigs with
 | some i=>inp.getD i 0
 | none=>0
theorem muxI_some{l:List Sig}{i:Nat}(h:muxI l=some i):∃s,l[i]? =some s∧s.role=1:=by
 unfold muxI at h;have:=List.find?_some h
 cases hl:l[i]? with
 | none=>rw[hl]at this;simp at this
 | some s=>rw[hl]at this;exact⟨s,rfl,by simpa using this⟩
theorem muxI_none{l:List Sig}(h:muxI l=none):∀s∈l,s.role≠1:=by
 unfold muxI at h;rw[List.find?_eq_none]at h;intro s hs e;obtain⟨i,hi⟩:=List.getElem?_of_mem hs;have hl:=(List.getElem?_eq_some_iff.1 hi).1;have:=h i (List.mem_range.2 hl);rw[hi]at this;simp[e]at this
structure Msg.Lays(m:Msg):Prop where
 size:0≤m.size∧m.size≤8
 sigs:∀s∈m.sigs,s.InPay m.size.toNat
 mux:(∃s∈m.sigs,s.role=2)→muxI m.sigs≠none
theorem zeros_bit(n j:Nat):payBit (List.replicate n 0) j=false:=by
 unfold payBit;rw[List.getD_eq_getElem?_getD,List.getElem?_replicate]
 split<;>simp
theorem pack_run{m:Msg}(h:m.Lays){pay:List Nat}(hp:pay.length=m.size.toNat)(hb:Bytes pay)(slots:Nat):
    match packTo inp (m.muxV inp) 0 m.sigs (fun _=>false)with
    | .error k=>(run m.packI inp 0 (start pay slots)).failed=some (k:Int)
    | .ok f=>∃s' n,run m.packI inp 0 (start pay slots)=⟨none,s',n⟩∧s'.out=List.replicate slots 0∧s'.has=List.replicate slots false∧s'.pay.length=m.size.toNat∧Bytes s'.pay∧∀j,payBit s'.pay j=f j:=by
 have hhead:∃s1,Seg m.packHead inp (start pay slots) s1∧s1.out=List.replicate slots 0∧s1.has=List.replicate slots false∧s1.pay.length=m.size.toNat∧Bytes s1.pay∧(∀j,payBit s1.pay j=false)∧((∃s∈m.sigs,s.role=2)→s1.r 0=m.muxV inp):=by
  have hz:∃s1,Seg (if 0<m.size then [⟨1,2,0,0,0⟩,⟨11,2,0,m.size,0⟩]else []) inp (start pay slots) s1∧s1.out=List.replicate slots 0∧s1.has=List.replicate slots false∧s1.pay.length=m.size.toNat∧Bytes s1.pay∧(∀j,payBit s1.pay j=false):=by
   by_cases h0:0<m.size
   ·rw[if_pos h0]
    have e1:(⟨1,2,0,0,0⟩:Ins).exec inp (start pay slots)= .go 0 ((start pay slots).set 2 0):=exec_1 (a:=2) (b:=0) (n:=0) (m:=0)
    have hn:m.size=((m.size.toNat:Nat):Int):=by omega
    have e2:(⟨11,2,0,m.size,0⟩:Ins).exec inp ((start pay slots).set 2 0)= .go 0 { (start pay slots).set 2 0 with pay:=patch pay 0 (storeL 0 all64 0 ((pay.drop 0).take m.size.toNat))}:=by
     rw[hn];exact exec_11 (a:=2) (b:=0) (n:=m.size.toNat) (m:=0)
    have hpt:(pay.drop 0).take m.size.toNat=pay:=by rw[List.drop_zero,←hp,List.take_length]
    rw[hpt]at e2
    have hl:(patch pay 0 (storeL 0 all64 0 pay)).length=m.size.toNat:=by rw[patch_length (by rw[storeL_length];omega),hp]
    have hby:Bytes (patch pay 0 (storeL 0 all64 0 pay)):=patch_bytes hb (storeL_bytes _ _ _ _ hb);refine⟨_,Seg.cons e1 (Seg.one e2),rfl,rfl,hl,hby,fun j=> ?_⟩
    show payBit (patch pay 0 (storeL 0 all64 0 pay)) j=false
    unfold payBit;rw[List.getD_eq_getElem?_getD,patch_get (by rw[storeL_length];omega)]
    by_cases hj:j/8<pay.length
    ·rw[if_pos (by rw[storeL_length];omega),Nat.sub_zero]
     obtain⟨o,ho⟩:∃o,pay[j/8]? =some o:=⟨_,List.getElem?_eq_getElem hj⟩;rw[storeL_get _ _ _ _ _ _ ho,Nat.zero_add,all64_byte (i:=j/8) (by have:=h.size;omega),Option.getD_some]
     have:byteOf 0 (8*(j/8))=0:=by unfold byteOf;simp
     rw[this,blend_all (by omega)];simp
    ·rw[if_neg (by rw[storeL_length];omega),List.getElem?_eq_none (by omega)]
     simp
   ·rw[if_neg h0]
    have e0:pay=[]:=List.eq_nil_of_length_eq_zero (by omega);refine⟨_,Seg.nil _,rfl,rfl,hp,hb,fun j=> ?_⟩
    show payBit pay j=false
    rw[e0];unfold payBit;simp
  obtain⟨s1,g1,o1,a1,n1,p1,b1⟩:=hz;unfold Msg.packHead Msg.muxV
  cases hm:muxI m.sigs with
  | none=>
   refine⟨s1,g1.append (Seg.nil s1),o1,a1,n1,p1,b1,fun hs=>absurd hm (h.mux hs)⟩
  | some i=>
   exact⟨_,g1.append (Seg.one (exec_15 (a:=0) (b:=i) (n:=0) (m:=0))),o1,a1,n1,p1,b1,fun _=>rfl⟩
 obtain⟨s1,g1,o1,a1,n1,p1,b1,r1⟩:=hhead;have hs:=packSigs_seg (inp:=inp) (m.muxV inp) m.sigs 0 s1 (by rw[n1];exact h.sigs) p1 r1
 have hcg:packTo inp (m.muxV inp) 0 m.sigs (payBit s1.pay)=packTo inp (m.muxV inp) 0 m.sigs (fun _=>false):=by
  congr 1
  funext j
  exact b1 j
 rw[hcg]at hs
 revert hs
 cases packTo inp (m.muxV inp) 0 m.sigs (fun _=>false)with
 | error k=>exact fun hs=>SegFail.run (SegFail.right g1 hs)
 | ok f=>
  rintro⟨s2,g2,o2,a2,n2,p2,b2⟩;obtain⟨n,hn⟩:=Seg.run (g1.append g2);exact⟨s2,n,hn,o2.trans o1,a2.trans a1,n2.trans n1,p2,b2⟩
end Go.Proofs.YtljhklblbafjkaaGreatDoor.B
namespace Go.Proofs.YtljhklblbafjkaaGreatDoor.B
variable {inp:List Nat}
def rdF(pay:List Nat):Nat→List Nat→Nat→Nat
 | _,[],v=>v
 | k,b::r,v=>rdF pay (k+1) r (v|||if payBit pay b=true then 2^k else 0)
def Sig.one(s:Sig)(pay:List Nat):Nat:=extend (rdF pay 0 s.bits 0) s.size.toNat s.signed
theorem rdF_bit(pay:List Nat):∀(l:List Nat) (k v j:Nat),(rdF pay k l v).testBit j=(v.testBit j||(decide (k≤j)&&match l[j-k]? with
    | some b=>payBit pay b
    | none=>false))
 | [],k,v,j=>by simp[rdF]
 | b::r,k,v,j=>by
  show(rdF pay (k+1) r _).testBit j=_
  rw[rdF_bit pay r (k+1) _ j,Nat.testBit_or,Bool.or_assoc];congr 1
  by_cases e:j=k
  ·subst e
   have h1:decide (j+1≤j)=false:=by simp
   rw[h1,Bool.false_and,Bool.or_false,Nat.sub_self];simp only[List.getElem?_cons_zero]
   cases payBit pay b<;>simp
  ·have hb:(if payBit pay b=true then 2^k else 0:Nat).testBit j=false:=by
     split
     ·rw[Nat.testBit_two_pow];simp;omega
     ·simp
   rw[hb,Bool.false_or]
   by_cases hk:k≤j
   ·have h1:k+1≤j:=by omega
    rw[show j-k=(j-(k+1))+1 by omega,List.getElem?_cons_succ];simp[hk,h1]
   ·have h1:¬k+1≤j:=by omega
    simp[hk,h1]
theorem rdF_lt(pay:List Nat)(l:List Nat):rdF pay 0 l 0<2^l.length:=by
 apply Nat.lt_pow_two_of_testBit;intro j hj;rw[rdF_bit];simp;rw[List.getElem?_eq_none (by omega)]
theorem St.set_set(s:St)(k a b:Nat):(s.set k a).set k b=s.set k b:=by
 unfold St.set;simp only[St.mk.injEq,and_true]
 funext j
 split<;>rfl
theorem and_pow(o c:Nat):o&&&2^c=if o.testBit c=true then 2^c else 0:=by
 apply Nat.eq_of_testBit_eq;intro j;rw[Nat.testBit_and,Nat.testBit_two_pow]
 by_cases e:c=j
 ·subst e
  cases h:o.testBit c<;>simp
 ·have:decide (c=j)=false:=by simp[e]
  rw[this,Bool.and_false];split
  ·rw[Nat.testBit_two_pow,this]
  ·simp
theorem shift_one(s:St)(on:Bool)(f t:Nat)(hf:f≤63)(ht:t≤63)(h:s.r 2=if on=true then 2^f else 0):Seg (shiftI 2 f t) inp s (s.set 2 (if on=true then 2^t else 0)):=by
 unfold shiftI
 by_cases h1:t<f
 ·rw[if_pos h1]
  refine Seg.one ?_;have:=exec_7 (a:=2) (b:=0) (n:=f-t) (m:=0) (inp:=inp) (s:=s);rw[Int.ofNat_sub (by omega)]at this;refine this.trans ?_;rw[h];congr 2
  cases on with
  | false=>simp
  | true=>
   simp only[if_true];rw[Nat.pow_div (by omega) (by omega)];congr 1;omega
 ·rw[if_neg h1]
  by_cases h2:f<t
  ·rw[if_pos h2]
   refine Seg.one ?_;have:=exec_6 (a:=2) (b:=0) (n:=t-f) (m:=0) (inp:=inp) (s:=s);rw[Int.ofNat_sub (by omega)]at this;refine this.trans ?_;rw[h];congr 2
   cases on with
   | false=>simp[shl64]
   | true=>
    simp only[if_true,shl64];rw[←Nat.pow_add,show f+(t-f)=t by omega,Nat.mod_eq_of_lt];exact Nat.lt_of_lt_of_le (Nat.pow_lt_pow_right (by omega) (by omega:t<64)) (by decide)
  ·rw[if_neg h2]
   have e:f=t:=by omega
   subst e
   have:s.set 2 (if on=true then 2^f else 0)=s:=by
    rw[←h];unfold St.set;cases s;simp only[St.mk.injEq,and_true]
    funext j
    split
    ·rename_i h;rw[h]
    ·rfl
   rw[this];exact Seg.nil s
structure ReadRel(r:Nat)(s s':St):Prop where
 pay:s'.pay=s.pay
 out:s'.out=s.out
 has:s'.has=s.has
 regs:∀j,j≠r→j≠2→s'.r j=s.r j
theorem ReadRel.refl(r:Nat)(s:St):ReadRel r s s:=⟨rfl,rfl,rfl,fun _ _ _=>rfl⟩
theorem ReadRel.trans{r:Nat}{a b c:St}(h:ReadRel r a b)(g:ReadRel r b c):ReadRel r a c:=
 ⟨g.pay.trans h.pay,g.out.trans h.out,g.has.trans h.has,fun j h1 h2=>(g.regs j h1 h2).trans (h.regs j h1 h2)⟩
theorem readBit_seg(r:Nat)(hr:r<2)(s:St)(k b:Nat)(hk:k≤63)(hb:b/8<s.pay.length):
    ∃s',Seg (readBit r k b) inp s s'∧ReadRel r s s'∧s'.r r=s.r r|||if payBit s.pay b=true then 2^k else 0:=by
 unfold readBit;obtain⟨o,ho⟩:∃o,s.pay[b/8]? =some o:=⟨_,List.getElem?_eq_getElem hb⟩
 have hpart:(s.pay.drop (b/8)).take 1=[o]:=by
  rw[List.take_one,List.head?_drop,ho];rfl
 have hbit:payBit s.pay b=o.testBit (b%8):=by
  unfold payBit;rw[List.getD_eq_getElem?_getD,ho];rfl
 have e1:(⟨9,2,((b/8:Nat):Int),1,0⟩:Ins).exec inp s= .go 0 (s.set 2 o):=by
  refine(exec_9 (a:=2) (b:=b/8) (n:=1) (m:=0)).trans ?_;rw[hpart];simp[loadL]
 have e2:(⟨8,2,0,0,((2^(b%8):Nat):Int)⟩:Ins).exec inp (s.set 2 o)= .go 0 (s.set 2 (if o.testBit (b%8)=true then 2^(b%8)else 0)):=by
  refine(exec_8 (a:=2) (b:=0) (n:=0) (m:=2^(b%8))).trans ?_;have:(s.set 2 o).r 2=o:=rfl;rw[this,and_pow,St.set_set]
 have e3:=shift_one (inp:=inp) (s.set 2 (if o.testBit (b%8)=true then 2^(b%8)else 0)) (o.testBit (b%8)) (b%8) k (by omega) hk rfl;rw[St.set_set]at e3
 have hset:∀w,(s.set 2 w).r r=s.r r:=fun w=>by
  show(if r=2 then w else s.r r)=s.r r
  rw[if_neg (by omega)]
 have e4:(⟨4,(r:Int),2,0,0⟩:Ins).exec inp (s.set 2 (if o.testBit (b%8)=true then 2^k else 0))= .go 0 ((s.set 2 (if o.testBit (b%8)=true then 2^k else 0)).set r (s.r r|||if o.testBit (b%8)=true then 2^k else 0)):=by
  refine(exec_4 (a:=r) (b:=2) (n:=0) (m:=0)).trans ?_;rw[hset];rfl
 refine⟨_,Seg.cons e1 (Seg.cons e2 (e3.append (Seg.one e4))),⟨rfl,rfl,rfl,fun j h1 h2=> ?_⟩, ?_⟩
 ·show(if j=r then _ else if j=2 then _ else s.r j)=s.r j
  rw[if_neg h1,if_neg h2]
 ·show(if r=r then _ else _)=_
  rw[if_pos rfl,hbit]
theorem readBits_seg(r:Nat)(hr:r<2):∀(l:List Nat) (k:Nat) (s:St),k+l.length≤64→(∀b∈l,b/8<s.pay.length)→
    ∃s',Seg (flatI (readBit r) k l) inp s s'∧ReadRel r s s'∧s'.r r=rdF s.pay k l (s.r r)
 | [],_,s,_,_=>⟨s,Seg.nil s,ReadRel.refl r s,rfl⟩
 | b::t,k,s,hk,hb=>by
  rw[List.length_cons]at hk;obtain⟨s1,g1,l1,b1⟩:=readBit_seg (inp:=inp) r hr s k b (by omega) (hb b List.mem_cons_self);obtain⟨s2,g2,l2,b2⟩:=readBits_seg r hr t (k+1) s1 (by omega) (fun x hx=>by rw[l1.pay];exact hb x (List.mem_cons_of_mem _ hx));refine⟨s2,g1.append g2,l1.trans l2, ?_⟩;rw[b2,b1,l1.pay];rfl
theorem readI_seg(sg:Sig)(r:Nat)(hr:r<2)(s:St)(h:sg.InPay s.pay.length):
    ∃s',Seg (sg.readI r) inp s s'∧ReadRel r s s'∧s'.r r=sg.one s.pay:=by
 have hz:=InPay.size h;have e1:(⟨1,(r:Int),0,0,0⟩:Ins).exec inp s= .go 0 (s.set r 0):=exec_1 (a:=r) (b:=0) (n:=0) (m:=0);have l1:ReadRel r s (s.set r 0):=⟨rfl,rfl,rfl,fun j h1 _=>by show(if j=r then 0 else s.r j)=s.r j;rw[if_neg h1]⟩
 have r1:(s.set r 0).r r=0:=by show(if r=r then 0 else s.r r)=0;rw[if_pos rfl]
 obtain⟨s2,g2,l2,b2⟩:=readBits_seg (inp:=inp) r hr sg.bits 0 (s.set r 0) (by omega) h.bits;rw[r1]at b2;have b2':s2.r r=rdF s.pay 0 sg.bits 0:=b2;have hlt:=rdF_lt s.pay sg.bits
 have hn:sg.size=((sg.size.toNat:Nat):Int):=by omega
 unfold Sig.readI Sig.one
 cases hs:sg.signed with
 | false=>
  refine⟨s2,Seg.cons e1 (g2.append (Seg.nil _)),l1.trans l2, ?_⟩;rw[b2'];unfold extend;rw[if_neg (by simp),low_le (by omega),Nat.mod_eq_of_lt];rw[←hz.1];exact hlt
 | true=>
  have e3:(⟨14,(r:Int),0,sg.size,0⟩:Ins).exec inp s2= .go 0 (s2.set r (extend (s2.r r) sg.size.toNat true)):=by
   rw[hn];exact exec_14 (a:=r) (b:=0) (n:=sg.size.toNat) (m:=0)
  refine⟨_,Seg.cons e1 (g2.append (Seg.one e3)),(l1.trans l2).trans ⟨rfl,rfl,rfl,fun j h1 _=> ?_⟩, ?_⟩
  ·show(if j=r then _ else s2.r j)=s2.r j
   rw[if_neg h1]
  ·show(if r=r then _ else _)=_
   rw[if_pos rfl,b2']
def outTo(pay:List Nat)(at':Nat):Nat→List Sig→List Nat→List Nat
 | _,[],o=>o
 | i,s::r,o=>outTo pay at' (i+1) r (if s.active at'=true then o.set i (s.one pay)else o)
def hasTo(at':Nat):Nat→List Sig→List Bool→List Bool
 | _,[],o=>o
 | i,s::r,o=>hasTo at' (i+1) r (if s.active at'=true then o.set i true else o)
theorem unpackSigs_seg(at':Nat):∀(l:List Sig) (i:Nat) (s:St),(∀x∈l,x.InPay s.pay.length)→((∃x∈l,x.role=2)→s.r 0=at')→
    ∃s',Seg (flatI unpackSig i l) inp s s'∧s'.pay=s.pay∧s'.out=outTo s.pay at' i l s.out∧s'.has=hasTo at' i l s.has
 | [],i,s,_,_=>⟨s,Seg.nil s,rfl,rfl,rfl⟩
 | x::r,i,s,hx,h0=>by
  have hx1:=hx x List.mem_cons_self
  have hr0:(∃y∈r,y.role=2)→s.r 0=at':=fun⟨y,hy,hy2⟩=>h0 ⟨y,List.mem_cons_of_mem _ hy,hy2⟩
  have hrr:∀s':St,s'.pay=s.pay→∀y∈r,y.InPay s'.pay.length:=fun s' e y hy=>by rw[e];exact hx y (List.mem_cons_of_mem _ hy)
  show∃s',Seg (unpackSig i x++flatI unpackSig (i+1) r) inp s s'∧s'.pay=s.pay∧s'.out=outTo s.pay at' (i+1) r (if x.active at'=true then s.out.set i (x.one s.pay)else s.out)∧s'.has=hasTo at' (i+1) r (if x.active at'=true then s.has.set i true else s.has)
  by_cases ha:x.active at'=true
  ·rw[if_pos ha,if_pos ha]
   obtain⟨s1,g1,l1,b1⟩:=readI_seg (inp:=inp) x 1 (by omega) s hx1;have e16:(⟨16,1,(i:Int),0,0⟩:Ins).exec inp s1= .go 0 { s1 with out:=s1.out.set i (s1.r 1),has:=s1.has.set i true}:=exec_16 (a:=1) (b:=i) (n:=0) (m:=0);have g2:=g1.append (Seg.one e16)
   have hpre:Seg (unpackSig i x) inp s { s1 with out:=s1.out.set i (s1.r 1),has:=s1.has.set i true}:=by
    unfold unpackSig Sig.branchI
    by_cases h2:x.role=2
    ·rw[if_pos h2]
     refine Seg.cons ?_ g2
     have hb:x.branch=((x.branch.toNat:Nat):Int):=by have:=hx1.branch h2;omega
     rw[hb];refine exec_19y (a:=0) ?_;have e0:=h0 ⟨x,List.mem_cons_self,h2⟩;unfold Sig.active at ha;simp[h2]at ha;omega
    ·rw[if_neg h2];exact g2
   obtain⟨s2,g3,p3,o3,a3⟩:=unpackSigs_seg at' r (i+1) { s1 with out:=s1.out.set i (s1.r 1),has:=s1.has.set i true} (hrr _ l1.pay) (fun hh=>by
    show s1.r 0=at'
    rw[l1.regs 0 (by omega) (by omega)];exact hr0 hh)
   refine⟨s2,hpre.append g3,p3.trans l1.pay, ?_, ?_⟩
   ·rw[o3]
    show outTo s1.pay at' (i+1) r (s1.out.set i (s1.r 1))=_
    rw[l1.pay,l1.out,b1]
   ·rw[a3]
    show hasTo at' (i+1) r (s1.has.set i true)=_
    rw[l1.has]
  ·rw[if_neg ha,if_neg ha]
   have h2:x.role=2:=by
    unfold Sig.active at ha;simp at ha;exact ha.1
   have hsk:Seg (unpackSig i x) inp s s:=by
    unfold unpackSig Sig.branchI;rw[if_pos h2]
    have hb:x.branch=((x.branch.toNat:Nat):Int):=by have:=hx1.branch h2;omega
    rw[hb];refine Seg.skip (exec_19n (a:=0) ?_);have e0:=h0 ⟨x,List.mem_cons_self,h2⟩;unfold Sig.active at ha;simp[h2]at ha;omega
   obtain⟨s2,g3,p3,o3,a3⟩:=unpackSigs_seg at' r (i+1) s (hrr s rfl) hr0;exact⟨s2,hsk.append g3,p3,o3,a3⟩
def Msg.muxP(m:Msg)(pay:List Nat):Nat:=match muxI m.sigs with
 | some i=>match m.sigs[i]? with
  | some s=>s.one pay
  | none=>0
 | none=>0
theorem unpack_run{m:Msg}(h:m.Lays){pay:List Nat}(hp:pay.length=m.size.toNat)(slots:Nat):
    ∃s' n,run m.unpackI inp 0 (start pay slots)=⟨none,s',n⟩∧s'.pay=pay∧s'.out=outTo pay (m.muxP pay) 0 m.sigs (List.replicate slots 0)∧s'.has=hasTo (m.muxP pay) 0 m.sigs (List.replicate slots false):=by
 have hsig:∀s∈m.sigs,s.InPay pay.length:=by rw[hp];exact h.sigs
 have hhead:∃s1,Seg m.unpackHead inp (start pay slots) s1∧s1.pay=pay∧s1.out=List.replicate slots 0∧s1.has=List.replicate slots false∧((∃s∈m.sigs,s.role=2)→s1.r 0=m.muxP pay):=by
  unfold Msg.unpackHead Msg.muxP
  cases hm:muxI m.sigs with
  | none=>exact⟨_,Seg.nil _,rfl,rfl,rfl,fun hs=>absurd hm (h.mux hs)⟩
  | some i=>
   obtain⟨s,hs,_⟩:=muxI_some hm;simp only[hs];obtain⟨s1,g1,l1,b1⟩:=readI_seg (inp:=inp) s 0 (by omega) (start pay slots) (hsig s (List.mem_of_getElem? hs));exact⟨s1,g1,l1.pay,l1.out,l1.has,fun _=>b1⟩
 obtain⟨s1,g1,p1,o1,a1,r1⟩:=hhead;obtain⟨s2,g2,p2,o2,a2⟩:=unpackSigs_seg (inp:=inp) (m.muxP pay) m.sigs 0 s1 (by rw[p1];exact hsig) r1;obtain⟨n,hn⟩:=Seg.run (g1.append g2);exact⟨s2,n,hn,p2.trans p1,by rw[o2,p1,o1],by rw[a2,a1]⟩
end Go.Proofs.YtljhklblbafjkaaGreatDoor.B
namespace Go.Proofs.YtljhklblbafjkaaGreatDoor.B
def Blk(K:Nat→Prop)(l:List Ins)(K':Nat→Prop):Prop:=
 ∃know:Nat→Nat→Prop,(∀r,know 0 r→K r)∧(∀r,K' r→know l.length r)∧
  ∀(i:Nat) (x:Ins),l[i]? =some x→(∀r,x.reads r=true→know i r)∧∀j,x.goes i j→j≤l.length∧∀r,know j r→x.writes r=true∨know i r
theorem Blk.nil(K:Nat→Prop):Blk K [] K:=⟨fun _=>K,fun _ h=>h,fun _ h=>h,fun i x h=>by simp at h⟩
theorem Blk.mono{K K' L L':Nat→Prop}{l:List Ins}(h:Blk K l K')(h1:∀r,K r→L r)(h2:∀r,L' r→K' r):Blk L l L':=by
 obtain⟨know,a,b,c⟩:=h;exact⟨know,fun r h=>h1 r (a r h),fun r h=>b r (h2 r h),c⟩
theorem Blk.one{K:Nat→Prop}{x:Ins}(h1:x.skips=false)(h2:∀r,x.reads r=true→K r):Blk K [x] (fun r=>x.writes r=true∨K r):=by
 refine⟨fun i=>if i=0 then K else fun r=>x.writes r=true∨K r,fun r h=>by simpa using h,fun r h=>by simpa using h,fun i y hy=> ?_⟩
 have hi:i=0:=by have:=(List.getElem?_eq_some_iff.1 hy).1;simp at this;omega
 subst hi;simp at hy;subst hy;refine⟨fun r hr=>by simpa using h2 r hr,fun j hg=> ?_⟩;rcases hg with⟨_,rfl⟩ | ⟨h,_⟩
 ·exact⟨by simp,fun r h=>by simpa using h⟩
 ·rw[h1]at h;cases h
theorem Blk.append{K K1 K2:Nat→Prop}{a b:List Ins}(ha:Blk K a K1)(hb:Blk K1 b K2):Blk K (a++b) K2:=by
 obtain⟨ka,a1,a2,a3⟩:=ha;obtain⟨kb,b1,b2,b3⟩:=hb;refine⟨fun i=>if i<a.length then ka i else kb (i-a.length),fun r h=> ?_,fun r h=> ?_,fun i x hx=> ?_⟩
 ·by_cases h0:0<a.length
  ·simp only[h0,if_true]at h;exact a1 r h
  ·simp only[h0,if_false]at h
   have e:a.length=0:=by omega
   rw[e]at h;have:=a2 r (b1 r h);rw[e]at this;exact a1 r this
 ·show(if(a++b).length<a.length then ka (a++b).length else kb ((a++b).length-a.length)) r
  rw[List.length_append,if_neg (by omega),Nat.add_sub_cancel_left];exact b2 r h
 ·by_cases hi:i<a.length
  ·rw[List.getElem?_append_left hi]at hx
   obtain⟨c1,c2⟩:=a3 i x hx;refine⟨fun r hr=>by simp only[hi,if_true];exact c1 r hr,fun j hg=> ?_⟩;obtain⟨d1,d2⟩:=c2 j hg;refine⟨by rw[List.length_append];omega,fun r h=> ?_⟩;simp only[hi,if_true]
   by_cases hj:j<a.length
   ·simp only[hj,if_true]at h;exact d2 r h
   ·simp only[hj,if_false]at h
    have e:j=a.length:=by omega
    subst e;rw[Nat.sub_self]at h;exact d2 r (a2 r (b1 r h))
  ·rw[List.getElem?_append_right (by omega)]at hx
   obtain⟨c1,c2⟩:=b3 _ x hx;refine⟨fun r hr=>by simp only[hi,if_false];exact c1 r hr,fun j hg=> ?_⟩;have hij:i<j:=Ins.goes_lt hg
   have hg':x.goes (i-a.length) (j-a.length):=by
    rcases hg with⟨h,rfl⟩ | ⟨h,rfl⟩
    ·exact .inl ⟨h,by omega⟩
    ·exact .inr ⟨h,by omega⟩
   obtain⟨d1,d2⟩:=c2 _ hg';refine⟨by rw[List.length_append];omega,fun r h=> ?_⟩
   have hj:¬j<a.length:=by omega
   simp only[hi,hj,if_false]at h⊢;exact d2 r h
theorem Blk.cons{K K2:Nat→Prop}{x:Ins}{l:List Ins}(h1:x.skips=false)(h2:∀r,x.reads r=true→K r)(h:Blk (fun r=>x.writes r=true∨K r) l K2):Blk K (x::l) K2:=(Blk.one h1 h2).append h
theorem Blk.skip{K K':Nat→Prop}{l:List Ins}{imm:Int}(h:Blk K l K')(hk:∀r,K r→K' r)(h0:K 0):Blk K (⟨19,0,0,(l.length:Int),imm⟩::l) K:=by
 obtain⟨know,a,b,c⟩:=h;refine⟨fun i=>if i=0∨i=l.length+1 then K else know (i-1),fun r h=>by simpa using h,fun r h=>by simpa using h,fun i x hx=> ?_⟩
 cases i with
 | zero=>
  simp at hx;subst hx;refine⟨fun r hr=> ?_,fun j hg=> ?_⟩
  ·simp[Ins.reads]at hr
   have e:r=0:=by omega
   subst e;simpa using h0
  ·rcases hg with⟨_,rfl⟩ | ⟨_,rfl⟩
   ·refine⟨by simp,fun r h=>.inr ?_⟩
    simp only[true_or,if_true];change(if 0+1=0∨0+1=l.length+1 then K else know (0+1-1)) r at h
    by_cases e:(0+1=0∨0+1=l.length+1)
    ·rw[if_pos e]at h;exact h
    ·rw[if_neg e]at h;exact a r h
   ·refine⟨by simp;omega,fun r h=>.inr ?_⟩
    simp only[Int.toNat_natCast]at h;rw[if_pos (.inr (by omega))]at h;simpa using h
 | succ i=>
  rw[List.getElem?_cons_succ]at hx;have hil:=(List.getElem?_eq_some_iff.1 hx).1;obtain⟨c1,c2⟩:=c i x hx
  have hne:¬(i+1=0∨i+1=l.length+1):=by omega
  refine⟨fun r hr=>by simp only[hne,if_false];exact c1 r hr,fun j hg=> ?_⟩;have hij:i+1<j:=Ins.goes_lt hg
  have hg':x.goes i (j-1):=by
   rcases hg with⟨h,rfl⟩ | ⟨h,rfl⟩
   ·exact .inl ⟨h,by omega⟩
   ·exact .inr ⟨h,by omega⟩
  obtain⟨d1,d2⟩:=c2 _ hg';refine⟨by rw[List.length_cons];omega,fun r h=> ?_⟩;simp only[hne,if_false];refine d2 r ?_;change(if j=0∨j=l.length+1 then K else know (j-1)) r at h
  by_cases e:(j=0∨j=l.length+1)
  ·rw[if_pos e]at h
   have e2:j-1=l.length:=by omega
   rw[e2];exact b r (hk r h)
  ·rw[if_neg e]at h;exact h
def Ins.Fine(x:Ins)(size slots:Int):Prop:=x.right=true∧(x.skips=false→x.touch size slots 0=0)
theorem Blk.may{p:List Ins}{K':Nat→Prop}(h:Blk (fun _=>False) p K'){size slots:Int}(hf:∀x∈p,x.Fine size slots)(hz:0≤size∧size≤8)(hs:0≤slots∧slots≤64)(hl:p.length≤16384):MayRun p size slots:=by
 obtain⟨know,a,b,c⟩:=h;refine⟨hz,hs,hl,⟨fun i x hx=>(hf x (List.mem_of_getElem? hx)).1,fun i x hx=> ?_⟩,fun i x hx r hr hm=> ?_⟩
 ·obtain⟨hr,ht⟩:=hf x (List.mem_of_getElem? hx)
  cases hsk:x.skips with
  | false=>
   have:=ht hsk;unfold Ins.touch at this⊢;unfold Ins.skips at hsk;simp at hsk;rw[if_neg (by omega:¬(18≤x.op∧x.op≤19))]at this⊢;exact this
  | true=>
   have hg:x.goes i (i+1+x.n.toNat):=.inr ⟨hsk,rfl⟩;have:=((c i x hx).2 _ hg).1;have hb:=right_bounds hr;unfold Ins.touch;unfold Ins.skips at hsk;simp at hsk;rw[if_neg (by omega),if_neg (by omega),if_pos (by omega),if_neg (by omega)]
 ·have key:∀i,May p r i→¬know i r:=by
    intro i hm
    induction hm with
    | start=>exact fun h=>a r h
    | step hm' hx' hw hg ih=>
     intro h;rcases((c _ _ hx').2 _ hg).2 r h with h' | h'
     ·rw[hw]at h';cases h'
     ·exact ih h'
  exact key i hm ((c i x hx).1 r hr)
theorem flatI_blk{α:Type}{f:Nat→α→List Ins}{K:Nat→Prop}:∀(l:List α) (k:Nat),(∀i x,x∈l→Blk K (f i x) K)→Blk K (flatI f k l) K
 | [],_,_=>Blk.nil K
 | x::r,k,h=>(h k x List.mem_cons_self).append (flatI_blk r (k+1) (fun i y hy=>h i y (List.mem_cons_of_mem _ hy)))
theorem flatI_mem{α:Type}{f:Nat→α→List Ins}{y:Ins}:∀(l:List α) (k:Nat),y∈flatI f k l→∃i x,l[i]? =some x∧y∈f (k+i) x
 | [],_,h=>by simp[flatI]at h
 | x::r,k,h=>by
  rcases List.mem_append.1 h with h | h
  ·exact⟨0,x,rfl,h⟩
  ·obtain⟨i,z,h1,h2⟩:=flatI_mem r (k+1) h
   exact⟨i+1,z,by simpa using h1,by rw[show k+(i+1)=k+1+i by omega];exact h2⟩
theorem flatI_len{α:Type}{f:Nat→α→List Ins}{n:Nat}:∀(l:List α) (k:Nat),(∀i x,x∈l→(f i x).length≤n)→(flatI f k l).length≤l.length*n
 | [],_,_=>by simp[flatI]
 | x::r,k,h=>by
  have h1:=h k x List.mem_cons_self;have h2:=flatI_len r (k+1) (fun i y hy=>h i y (List.mem_cons_of_mem _ hy))
  show(f k x++flatI f (k+1) r).length≤_
  rw[List.length_append,List.length_cons,Nat.add_mul];omega
theorem shiftI_len(r:Int)(f t:Nat):(shiftI r f t).length≤1:=by
 unfold shiftI;split
 ·simp
 ·split<;>simp
theorem shiftI_blk{K:Nat→Prop}(h:K 2)(f t:Nat):Blk K (shiftI 2 f t) K:=by
 unfold shiftI;split
 ·refine(Blk.one (by rfl) (fun r hr=> ?_)).mono (fun _ h=>h) (fun r hr=>.inr hr)
  simp[Ins.reads]at hr
  have e:r=2:=by omega
  subst e;exact h
 ·split
  ·refine(Blk.one (by rfl) (fun r hr=> ?_)).mono (fun _ h=>h) (fun r hr=>.inr hr)
   simp[Ins.reads]at hr
   have e:r=2:=by omega
   subst e;exact h
  ·exact Blk.nil K
theorem shiftI_fine{f t:Nat}(hf:f≤63)(ht:t≤63){x:Ins}(hx:x∈shiftI 2 f t)(size slots:Int):x.Fine size slots:=by
 unfold shiftI at hx;split at hx
 ·rw[List.mem_singleton.1 hx]
  refine⟨?_,fun _=>by simp[Ins.touch]⟩;simp[Ins.right,isOp,hasA,hiB,loN,hiN,hiImm];omega
 ·split at hx
  ·rw[List.mem_singleton.1 hx]
   refine⟨?_,fun _=>by simp[Ins.touch]⟩;simp[Ins.right,isOp,hasA,hiB,loN,hiN,hiImm];omega
  ·simp at hx
theorem layBit_blk{K:Nat→Prop}(h:K 1)(k b:Nat):Blk K (layBit k b) K:=by
 unfold layBit;refine Blk.cons (by rfl) (fun r hr=> ?_) (((shiftI_blk (K:=fun r=>_∨K r) (.inl (by rfl)) k (b%8)).append (Blk.one (by rfl) (fun r hr=> ?_))).mono (fun _ h=>h) (fun r hr=>.inr (.inr hr)))
 ·simp[Ins.reads]at hr
  have e:r=1:=by omega
  subst e;exact h
 ·simp[Ins.reads]at hr
  have e:r=2:=by omega
  subst e;exact .inl (by rfl)
theorem pow_mod8(b:Nat):(2^(b%8):Nat)≤128:=by
 have:2^(b%8)≤2^7:=Nat.pow_le_pow_right (by omega) (by omega);exact this
theorem layBit_fine{k b:Nat}(hk:k≤63){size slots:Int}(hb:((b/8:Nat):Int)<size)(hz:size≤8){x:Ins}(hx:x∈layBit k b):x.Fine size slots:=by
 unfold layBit at hx;rcases List.mem_cons.1 hx with rfl | hx
 ·exact⟨by rfl,fun _=>by simp[Ins.touch]⟩
 ·rcases List.mem_append.1 hx with hx | hx
  ·exact shiftI_fine hk (by omega) hx _ _
  ·rw[List.mem_singleton.1 hx]
   have:=pow_mod8 b;generalize 2^(b%8)=c at this⊢;refine⟨?_,fun _=> ?_⟩
   ·simp only[Ins.right,isOp,hasA,hiB,loN,hiN,hiImm]
    simp;omega
   ·simp only[Ins.touch]
    simp;omega
theorem layI_blk{K:Nat→Prop}(s:Sig)(i:Nat):Blk K (s.layI i) K:=by
 unfold Sig.layI;refine Blk.cons (by rfl) (fun r hr=>by simp[Ins.reads]at hr) (Blk.cons (by rfl) (fun r hr=> ?_) ((flatI_blk s.bits 0 (fun k b _=>layBit_blk (K:=fun r=>_∨_∨K r) (.inr (.inl (by rfl))) k b)).mono (fun _ h=>h) (fun r hr=>.inr (.inr hr))));simp[Ins.reads]at hr
 have e:r=1:=by omega
 subst e;exact .inl (by rfl)
theorem layI_len(s:Sig)(i:Nat)(h:s.size≤64):(s.layI i).length≤194:=by
 unfold Sig.layI
 have h1:=flatI_len (f:=layBit) (n:=3) s.bits 0 (fun k b _=>by
  unfold layBit;have:=shiftI_len 2 k (b%8);simp
  omega)
 have h2:=s.bits_length;simp only[List.length_cons];omega
theorem layI_fine{s:Sig}{i size slots:Nat}(h:s.InPay size)(hz:size≤8)(hi:i<slots)(hs:slots≤64){x:Ins}(hx:x∈s.layI i):x.Fine size slots:=by
 have hsz:=InPay.size h;unfold Sig.layI at hx;rcases List.mem_cons.1 hx with rfl | hx
 ·refine⟨?_,fun _=> ?_⟩
  ·simp[Ins.right,isOp,hasA,hiB,loN,hiN,hiImm];omega
  ·simp[Ins.touch];omega
 ·rcases List.mem_cons.1 hx with rfl | hx
  ·refine⟨?_,fun _=> ?_⟩
   ·cases s.signed<;>(simp[Ins.right,isOp,hasA,hiB,loN,hiN,hiImm];omega)
   ·simp[Ins.touch];omega
  ·obtain⟨k,b,hb,hx⟩:=flatI_mem _ _ hx
   have hk:=(List.getElem?_eq_some_iff.1 hb).1;have:=h.bits b (List.mem_of_getElem? hb);exact layBit_fine (by omega) (by omega) (by omega) hx
def KMux(m:Msg)(r:Nat):Prop:=r=0∧muxI m.sigs≠none
theorem branch_blk{K K':Nat→Prop}{s:Sig}{l:List Ins}(h:Blk K l K')(hk:∀r,K r→K' r)(h0:s.role=2→K 0):Blk K (s.branchI l) K:=by
 unfold Sig.branchI
 by_cases h2:s.role=2
 ·rw[if_pos h2];exact Blk.skip h hk (h0 h2)
 ·rw[if_neg h2];exact h.mono (fun _ h=>h) hk
theorem branch_fine{s:Sig}{l:List Ins}{size slots:Int}(h:∀x∈l,x.Fine size slots)(hl:l.length≤16384)(hb:s.role=2→InU64 s.branch):∀x∈s.branchI l,x.Fine size slots:=by
 unfold Sig.branchI
 by_cases h2:s.role=2
 ·rw[if_pos h2]
  intro x hx;rcases List.mem_cons.1 hx with rfl | hx
  ·refine⟨?_,fun h=>by simp[Ins.skips]at h⟩
   have h3:=(hb h2).1;have h4:=(hb h2).2;simp[Ins.right,isOp,hasA,hiB,loN,hiN,hiImm];omega
  ·exact h x hx
 ·rw[if_neg h2];exact h
theorem branch_len{s:Sig}{l:List Ins}:(s.branchI l).length≤l.length+1:=by
 unfold Sig.branchI
 split<;>simp
theorem pack_may{m:Msg}(h:m.Lays)(hn:m.sigs.length≤64)(hb:∀s∈m.sigs,s.role=2→InU64 s.branch):MayRun m.packI m.size m.sigs.length:=by
 have hz:=h.size
 have hmux:∀i,muxI m.sigs=some i→i<m.sigs.length:=fun i hi=>by
  obtain⟨s,hs,_⟩:=muxI_some hi;exact(List.getElem?_eq_some_iff.1 hs).1
 have hhead:Blk (fun _=>False) m.packHead (KMux m):=by
  unfold Msg.packHead
  have h1:Blk (fun _=>False) (if 0<m.size then [⟨1,2,0,0,0⟩,⟨11,2,0,m.size,0⟩]else []) (fun _=>False):=by
   split
   ·refine(Blk.cons (by rfl) (fun r hr=>by simp[Ins.reads]at hr) (Blk.one (by rfl) (fun r hr=> ?_))).mono (fun _ h=>h) (fun r h=>h.elim)
    simp[Ins.reads]at hr
    have e:r=2:=by omega
    subst e;exact .inl (by rfl)
   ·exact Blk.nil _
  refine h1.append ?_;unfold KMux
  cases hm:muxI m.sigs with
  | none=>exact(Blk.nil _).mono (fun _ h=>h) (fun r h=>absurd rfl h.2)
  | some i=>
   refine(Blk.one (by rfl) (fun r hr=>by simp[Ins.reads]at hr)).mono (fun _ h=>h) (fun r h=>.inl ?_);rw[h.1];rfl
 have hsig:∀i x,x∈m.sigs→Blk (KMux m) (packSig i x) (KMux m):=fun i x hx=>
  branch_blk (layI_blk x i) (fun _ h=>h) (fun h2=>⟨rfl,h.mux ⟨x,hx,h2⟩⟩)
 have hall:Blk (fun _=>False) m.packI (KMux m):=hhead.append (flatI_blk m.sigs 0 hsig)
 have hsize:∀s∈m.sigs,s.size≤64:=fun s hs=>(InPay.size (h.sigs s hs)).2.2
 refine hall.may (fun x hx=> ?_) hz (by omega) ?_
 ·unfold Msg.packI at hx
  have hsz:((m.size.toNat:Nat):Int)=m.size:=by omega
  rcases List.mem_append.1 hx with hx | hx
  ·unfold Msg.packHead at hx
   rcases List.mem_append.1 hx with hx | hx
   ·split at hx
    ·rcases List.mem_cons.1 hx with rfl | hx
     ·exact⟨by rfl,fun _=>by simp[Ins.touch]⟩
     ·rw[List.mem_singleton.1 hx]
      refine⟨?_,fun _=> ?_⟩
      ·simp[Ins.right,isOp,hasA,hiB,loN,hiN,hiImm];omega
      ·simp[Ins.touch]
    ·simp at hx
   ·split at hx
    ·rename_i i hi
     have:=hmux i hi;rw[List.mem_singleton.1 hx];refine⟨?_,fun _=> ?_⟩
     ·simp[Ins.right,isOp,hasA,hiB,loN,hiN,hiImm];omega
     ·simp[Ins.touch];omega
    ·simp at hx
  ·obtain⟨i,s,hs,hx⟩:=flatI_mem _ _ hx
   have hi:=(List.getElem?_eq_some_iff.1 hs).1;have hm:=List.mem_of_getElem? hs
   have hfine:∀x∈s.layI (0+i),x.Fine m.size m.sigs.length:=fun x hx=>by
    have:=layI_fine (h.sigs s hm) (by omega) (by omega:0+i<m.sigs.length) hn hx;rw[hsz]at this;exact this
   exact branch_fine hfine (by have:=layI_len s (0+i) (hsize s hm);omega) (hb s hm) x hx
 ·unfold Msg.packI
  rw[List.length_append]
  have h1:m.packHead.length≤3:=by
   unfold Msg.packHead;rw[List.length_append]
   have a1:(if 0<m.size then [(⟨1,2,0,0,0⟩:Ins),⟨11,2,0,m.size,0⟩]else []).length≤2:=by split<;>simp
   refine Nat.le_trans (Nat.add_le_add a1 (?_:_≤1)) (by omega)
   split<;>simp
  have h2:=flatI_len (f:=packSig) (n:=195) m.sigs 0 (fun i x hx=>by
   unfold packSig;have:=branch_len (s:=x) (l:=x.layI i);have:=layI_len x i (hsize x hx)
   omega)
  have h3:m.sigs.length*195≤64*195:=Nat.mul_le_mul_right _ hn;omega
theorem readBit_blk{K:Nat→Prop}{q:Nat}(hq:q<2)(h:K q)(k b:Nat):Blk K (readBit q k b) K:=by
 unfold readBit;refine Blk.cons (by rfl) (fun r hr=>by simp[Ins.reads]at hr) (Blk.cons (by rfl) (fun r hr=> ?_) (((shiftI_blk (K:=fun r=>_∨_∨K r) (.inl (by rfl)) (b%8) k).append (Blk.one (by rfl) (fun r hr=> ?_))).mono (fun _ h=>h) (fun r hr=>.inr (.inr (.inr hr)))))
 ·simp[Ins.reads]at hr
  have e:r=2:=by omega
  subst e;exact .inl (by rfl)
 ·simp[Ins.reads]at hr
  have e:r=q∨r=2:=by omega
  rcases e with rfl | rfl
  ·exact .inr (.inr h)
  ·exact .inl (by rfl)
theorem writes_a{x:Ins}{r:Nat}(h1:x.isW=true)(h2:x.a=(r:Int)):x.writes r=true:=by
 unfold Ins.writes;rw[h1,h2];simp
theorem readBit_fine{q k b:Nat}(hq:q<2)(hk:k≤63){size slots:Int}(hb:((b/8:Nat):Int)<size)(hz:size≤8){x:Ins}(hx:x∈readBit q k b):x.Fine size slots:=by
 unfold readBit at hx;rcases List.mem_cons.1 hx with rfl | hx
 ·refine⟨?_,fun _=> ?_⟩
  ·simp[Ins.right,isOp,hasA,hiB,loN,hiN,hiImm];omega
  ·simp[Ins.touch];omega
 ·rcases List.mem_cons.1 hx with rfl | hx
  ·have:=pow_mod8 b
   generalize 2^(b%8)=c at this⊢;refine⟨?_,fun _=>by simp[Ins.touch]⟩;simp only[Ins.right,isOp,hasA,hiB,loN,hiN,hiImm];simp;omega
  ·rcases List.mem_append.1 hx with hx | hx
   ·exact shiftI_fine (by omega) hk hx _ _
   ·rw[List.mem_singleton.1 hx]
    refine⟨?_,fun _=>by simp[Ins.touch]⟩;simp[Ins.right,isOp,hasA,hiB,loN,hiN,hiImm];omega
theorem readI_blk{K:Nat→Prop}(s:Sig){q:Nat}(hq:q<2):Blk K (s.readI q) (fun r=>r=q∨K r):=by
 unfold Sig.readI;have hw:(⟨1,(q:Int),0,0,0⟩:Ins).writes q=true:=writes_a (by rfl) rfl;refine(Blk.cons (by rfl) (fun r hr=>by simp[Ins.reads]at hr) ((flatI_blk s.bits 0 (fun k b _=>readBit_blk (K:=fun r=>(⟨1,(q:Int),0,0,0⟩:Ins).writes r=true∨K r) hq (.inl hw) k b)).append (K2:=fun r=>(⟨1,(q:Int),0,0,0⟩:Ins).writes r=true∨K r) ?_)).mono (fun _ h=>h) (fun r hr=> ?_)
 ·split
  ·refine(Blk.one (by rfl) (fun r hr=> ?_)).mono (fun _ h=>h) (fun r hr=>.inr hr)
   simp[Ins.reads]at hr
   have e:r=q:=by omega
   subst e;exact .inl hw
  ·exact Blk.nil _
 ·rcases hr with rfl | hr
  ·exact .inl hw
  ·exact .inr hr
theorem readI_len(s:Sig)(q:Int)(h:0≤s.size):((s.readI q).length:Int)≤2+4*s.size:=by
 unfold Sig.readI
 have h1:=flatI_len (f:=readBit q) (n:=4) s.bits 0 (fun k b _=>by
  unfold readBit;have:=shiftI_len 2 (b%8) k;simp
  omega)
 have h2:=s.bits_length
 have h3:(if s.signed=true then [(⟨14,q,0,s.size,0⟩:Ins)]else []).length≤1:=by split<;>simp
 rw[List.length_cons,List.length_append];omega
theorem readI_fine{s:Sig}{size slots q:Nat}(hq:q<2)(h:s.InPay size)(hz:size≤8){x:Ins}(hx:x∈s.readI q):x.Fine size slots:=by
 have hsz:=InPay.size h;unfold Sig.readI at hx;rcases List.mem_cons.1 hx with rfl | hx
 ·refine⟨?_,fun _=>by simp[Ins.touch]⟩
  simp[Ins.right,isOp,hasA,hiB,loN,hiN,hiImm];omega
 ·rcases List.mem_append.1 hx with hx | hx
  ·obtain⟨k,b,hb,hx⟩:=flatI_mem _ _ hx
   have hk:=(List.getElem?_eq_some_iff.1 hb).1;have:=h.bits b (List.mem_of_getElem? hb);exact readBit_fine hq (by omega) (by omega) (by omega) hx
  ·split at hx
   ·rw[List.mem_singleton.1 hx]
    refine⟨?_,fun _=>by simp[Ins.touch]⟩;simp[Ins.right,isOp,hasA,hiB,loN,hiN,hiImm];omega
   ·simp at hx
theorem nodup_length:∀(n:Nat) (l:List Nat),l.Nodup→(∀b∈l,b<n)→l.length≤n
 | 0,l,_,h=>by
  cases l with
  | nil=>simp
  | cons a r=>exact absurd (h a List.mem_cons_self) (by omega)
 | n+1,l,hn,h=>by
  have h1:=nodup_length n (l.erase n) (hn.erase n) (fun b hb=>by
   have h2:=h b (List.mem_of_mem_erase hb)
   have h3:b≠n:=fun e=>by
    rw[e,List.Nodup.mem_erase_iff hn]at hb;exact hb.1 rfl
   omega)
  rw[List.length_erase]at h1
  split at h1<;>omega
theorem apart_size{s t:Sig}(hs:s.placeNo=0)(ht:t.placeNo=0)(h:∀b∈s.bits,b∉t.bits):s.size+t.size≤64:=by
 have h1:=nodup_length 64 (s.bits++t.bits) (List.nodup_append.2 ⟨s.bits_nodup,t.bits_nodup,fun a ha b hb e=>h a ha (by rw[e];exact hb)⟩) (fun b hb=>by
  rcases List.mem_append.1 hb with hb | hb
  ·have:=(Sig.place_ok hs).2.2 b hb;omega
  ·have:=(Sig.place_ok ht).2.2 b hb;omega)
 rw[List.length_append,s.bits_length,t.bits_length]at h1;omega
def Msg.Slim(m:Msg):Prop:=match muxI m.sigs with
 | some i=>∀z,m.sigs[i]? =some z→∀(k:Nat) s,m.sigs[k]? =some s→k≠i→s.size+z.size≤64
 | none=>∀(i k:Nat) s t,m.sigs[i]? =some s→m.sigs[k]? =some t→i≠k→s.size+t.size≤64
theorem flatI_len'{α:Type}{f:Nat→α→List Ins}{n:Nat}:∀(l:List α) (k:Nat),(∀(i:Nat) x,l[i]? =some x→(f (k+i) x).length≤n)→(flatI f k l).length≤l.length*n
 | [],_,_=>by simp[flatI]
 | x::r,k,h=>by
  have h1:=h 0 x rfl
  have h2:=flatI_len' r (k+1) (fun i y hy=>by
   have:=h (i+1) y (by simpa using hy);rw[show k+1+i=k+(i+1) by omega]
   exact this)
  show(f k x++flatI f (k+1) r).length≤_
  rw[List.length_append,List.length_cons,Nat.add_mul];simp only[Nat.add_zero]at h1;omega
theorem flatI_len_at{α:Type}{f:Nat→α→List Ins}{n z at':Nat}:∀(l:List α) (k:Nat),k≤at'→at'<k+l.length→(∀(i:Nat) x,l[i]? =some x→(f (k+i) x).length≤if k+i=at' then z else n)→(flatI f k l).length+n≤l.length*n+z
 | [],k,h1,h2,_=>by simp at h2;omega
 | x::r,k,hk,hk2,h=>by
  have h1:=h 0 x rfl
  have ht:∀(i:Nat) y,r[i]? =some y→(f (k+1+i) y).length≤if k+1+i=at' then z else n:=fun i y hy=>by
   have:=h (i+1) y (by simpa using hy);rw[show k+1+i=k+(i+1) by omega];exact this
  rw[List.length_cons]at hk2
  show(f k x++flatI f (k+1) r).length+n≤_
  rw[List.length_append,List.length_cons,Nat.add_mul]
  by_cases e:k=at'
  ·have h2:=flatI_len' (f:=f) (n:=n) r (k+1) (fun i y hy=>by
     have:=ht i y hy;rw[if_neg (by omega)]at this
     exact this)
   rw[if_pos (by omega)]at h1;simp only[Nat.add_zero]at h1;omega
  ·have h2:=flatI_len_at (f:=f) (n:=n) (z:=z) r (k+1) (by omega) (by omega) ht
   rw[if_neg (by omega)]at h1;simp only[Nat.add_zero]at h1;omega
theorem unpackSig_len{s:Sig}(i:Nat)(h:0≤s.size):((unpackSig i s).length:Int)≤4+4*s.size∧(s.role≠2→((unpackSig i s).length:Int)≤3+4*s.size):=by
 unfold unpackSig;have h1:=readI_len s 1 h;constructor
 ·have:=branch_len (s:=s) (l:=s.readI 1++[⟨16,1,(i:Int),0,0⟩])
  simp only[List.length_append,List.length_cons,List.length_nil]at this;omega
 ·intro h2
  unfold Sig.branchI;rw[if_neg h2];simp only[List.length_append,List.length_cons,List.length_nil];omega
theorem unpack_len{m:Msg}(h:m.Lays)(hn:m.sigs.length≤64)(hs:m.Slim):m.unpackI.length≤16384:=by
 have hz:∀s∈m.sigs,1≤s.size∧s.size≤64:=fun s hs=>(InPay.size (h.sigs s hs)).2
 unfold Msg.unpackI Msg.unpackHead;unfold Msg.Slim at hs;rw[List.length_append]
 cases hm:muxI m.sigs with
 | none=>
  rw[hm]at hs
  have hr:∀s∈m.sigs,s.role≠2:=fun s h1 h2=>h.mux ⟨s,h1,h2⟩ hm
  simp only at hs⊢
  by_cases h1:m.sigs.length≤1
  ·have h2:=flatI_len (f:=unpackSig) (n:=259) m.sigs 0 (fun i x hx=>by
     have:=(unpackSig_len (s:=x) i (by have:=hz x hx;omega)).2 (hr x hx);have:=hz x hx
     omega)
   have h3:m.sigs.length*259≤1*259:=Nat.mul_le_mul_right _ h1;simp only[List.length_nil];omega
  ·have h2:=flatI_len' (f:=unpackSig) (n:=255) m.sigs 0 (fun i x hx=>by
     have hx':=List.mem_of_getElem? hx;have h4:=(unpackSig_len (s:=x) (0+i) (by have:=hz x hx';omega)).2 (hr x hx')
     obtain⟨k,hk1,hk2⟩:∃k,k<m.sigs.length∧i≠k:=by
      by_cases e:i=0
      ·exact⟨1,by omega,by omega⟩
      ·exact⟨0,by omega,e⟩
     obtain⟨t,ht⟩:∃t,m.sigs[k]? =some t:=⟨_,List.getElem?_eq_getElem hk1⟩;have h5:=hs i k x t hx ht hk2;have h6:=hz t (List.mem_of_getElem? ht)
     omega)
   have h3:m.sigs.length*255≤64*255:=Nat.mul_le_mul_right _ hn;simp only[List.length_nil];omega
 | some i=>
  rw[hm]at hs;obtain⟨z,hzi,hzr⟩:=muxI_some hm;simp only[hzi]at hs⊢;have hs':=hs z rfl;have hzz:=hz z (List.mem_of_getElem? hzi);have hil:=(List.getElem?_eq_some_iff.1 hzi).1;have h0:=readI_len z 0 (by omega);obtain⟨n,hn'⟩:∃n:Nat,z.size=(n:Int):=⟨z.size.toNat,by omega⟩
  have h2:=flatI_len_at (f:=unpackSig) (n:=260-4*n) (z:=3+4*n) (at':=i) m.sigs 0 (by omega) (by omega) (fun k x hx=>by
   have hx':=List.mem_of_getElem? hx;have h4:=unpackSig_len (s:=x) (0+k) (by have:=hz x hx';omega)
   by_cases e:0+k=i
   ·rw[if_pos e]
    have e2:k=i:=by omega
    rw[e2,hzi]at hx;cases hx;have:=h4.2 (by omega);omega
   ·rw[if_neg e]
    have:=hs' k x hx (by omega);have:=h4.1
    omega)
  have h3:(m.sigs.length-1)*(260-4*n)≤63*(260-4*n):=Nat.mul_le_mul_right _ (by omega)
  have h5:m.sigs.length*(260-4*n)=(m.sigs.length-1)*(260-4*n)+(260-4*n):=by
   obtain⟨q,hq⟩:∃q,m.sigs.length=q+1:=⟨m.sigs.length-1,by omega⟩;rw[hq,Nat.add_mul];simp
  omega
theorem unpack_may{m:Msg}(h:m.Lays)(hn:m.sigs.length≤64)(hb:∀s∈m.sigs,s.role=2→InU64 s.branch)(hsl:m.Slim):MayRun m.unpackI m.size m.sigs.length:=by
 have hz:=h.size
 have hsz:((m.size.toNat:Nat):Int)=m.size:=by omega
 have hhead:Blk (fun _=>False) m.unpackHead (KMux m):=by
  unfold Msg.unpackHead KMux
  cases hm:muxI m.sigs with
  | none=>exact(Blk.nil _).mono (fun _ h=>h) (fun r h=>absurd rfl h.2)
  | some i=>
   obtain⟨s,hs,_⟩:=muxI_some hm;simp only[hs];exact(readI_blk s (by omega:0<2)).mono (fun _ h=>h) (fun r h=>.inl h.1)
 have hsig:∀i x,x∈m.sigs→Blk (KMux m) (unpackSig i x) (KMux m):=fun i x hx=>by
  refine branch_blk (K':=KMux m) ((readI_blk x (by omega:1<2)).append (K2:=KMux m) ?_) (fun _ h=>h) (fun h2=>⟨rfl,h.mux ⟨x,hx,h2⟩⟩);refine(Blk.one (by rfl) (fun r hr=> ?_)).mono (fun _ h=>h) (fun r hr=>.inr (.inr hr));simp[Ins.reads]at hr;exact .inl (by omega)
 have hall:Blk (fun _=>False) m.unpackI (KMux m):=hhead.append (flatI_blk m.sigs 0 hsig);refine hall.may (fun x hx=> ?_) hz (by omega) (unpack_len h hn hsl);unfold Msg.unpackI at hx;rcases List.mem_append.1 hx with hx | hx
 ·unfold Msg.unpackHead at hx
  cases hm:muxI m.sigs with
  | none=>rw[hm]at hx;simp at hx
  | some i=>
   obtain⟨s,hs,_⟩:=muxI_some hm;rw[hm]at hx;simp only[hs]at hx;have:=readI_fine (slots:=m.sigs.length) (by omega:0<2) (h.sigs s (List.mem_of_getElem? hs)) (by omega) hx;rw[hsz]at this;exact this
 ·obtain⟨i,s,hs,hx⟩:=flatI_mem _ _ hx
  have hi:=(List.getElem?_eq_some_iff.1 hs).1;have hm:=List.mem_of_getElem? hs;refine branch_fine (fun x hx=> ?_) ?_ (hb s hm) x hx
  ·rcases List.mem_append.1 hx with hx | hx
   ·have:=readI_fine (slots:=m.sigs.length) (by omega:1<2) (h.sigs s hm) (by omega) hx
    rw[hsz]at this;exact this
   ·rw[List.mem_singleton.1 hx]
    refine⟨?_,fun _=> ?_⟩
    ·simp[Ins.right,isOp,hasA,hiB,loN,hiN,hiImm];omega
    ·simp[Ins.touch];omega
  ·have h1:=InPay.size (h.sigs s hm)
   have:=readI_len s 1 (by omega);simp only[List.length_append,List.length_cons,List.length_nil];omega
end Go.Proofs.YtljhklblbafjkaaGreatDoor.B
namespace Go.Proofs.YtljhklblbafjkaaGreatDoor.B
variable {inp:List Nat}
def Together(s t:Sig):Prop:=s.role≠2∨t.role≠2∨s.branch=t.branch
structure Msg.Ok(m:Msg):Prop where
 size:0≤m.size∧m.size≤8
 count:m.sigs.length≤64
 place:∀s∈m.sigs,s.whereNo m.size=0
 branch:∀s∈m.sigs,InU64 s.branch
 muxs:(∃s∈m.sigs,s.role=2)→muxI m.sigs≠none
 apart:∀(i k:Nat) s t,m.sigs[i]? =some s→m.sigs[k]? =some t→i≠k→Together s t→∀b∈s.bits,b∉t.bits
theorem Msg.Ok.inPay{m:Msg}(h:m.Ok):∀s∈m.sigs,s.InPay m.size.toNat:=fun s hs=>by
 obtain⟨h1,h2⟩:=Sig.where_ok (h.place s hs) h.size;have hz:=h.size;exact⟨h1,fun b hb=>by have:=h2 b hb;omega,fun _=>(h.branch s hs).1⟩
theorem Msg.Ok.lays{m:Msg}(h:m.Ok):m.Lays:=⟨h.size,h.inPay,h.muxs⟩
theorem Msg.Ok.slim{m:Msg}(h:m.Ok):m.Slim:=by
 unfold Msg.Slim
 cases hm:muxI m.sigs with
 | some i=>
  intro z hz k s hs hk;obtain⟨z',hz',hr⟩:=muxI_some hm;rw[hz]at hz';cases hz';exact apart_size (h.inPay s (List.mem_of_getElem? hs)).place (h.inPay z (List.mem_of_getElem? hz)).place (h.apart k i s z hs hz hk (.inr (.inl (by omega))))
 | none=>
  intro i k s t hs ht hik
  have hr:s.role≠2:=fun e=>h.muxs ⟨s,List.mem_of_getElem? hs,e⟩ hm
  exact apart_size (h.inPay s (List.mem_of_getElem? hs)).place (h.inPay t (List.mem_of_getElem? ht)).place (h.apart i k s t hs ht hik (.inl hr))
theorem Msg.Ok.pack_may{m:Msg}(h:m.Ok):MayRun m.packI m.size m.sigs.length:=B.pack_may h.lays h.count (fun s hs _=>h.branch s hs)
theorem Msg.Ok.unpack_may{m:Msg}(h:m.Ok):MayRun m.unpackI m.size m.sigs.length:=B.unpack_may h.lays h.count (fun s hs _=>h.branch s hs) h.slim
theorem active_together{s t:Sig}{at':Nat}(hs:s.active at'=true)(ht:t.active at'=true):Together s t:=by
 unfold Sig.active at hs ht;simp at hs ht;unfold Together;rcases hs with hs | hs
 ·exact .inl hs
 ·rcases ht with ht | ht
  ·exact .inr (.inl ht)
  ·exact .inr (.inr (hs.trans ht.symm))
theorem packTo_err(at':Nat):∀(l:List Sig) (i k:Nat) (f:Nat→Bool),packTo inp at' i l f= .error k→i≤k∧k<i+l.length∧∃s,l[k-i]? =some s∧s.active at'=true∧fits (inp.getD k 0) s.size.toNat s.signed=false
 | [],i,k,f,h=>by simp[packTo]at h
 | s::r,i,k,f,h=>by
  have rec':∀g,packTo inp at' (i+1) r g= .error k→i≤k∧k<i+(s::r).length∧∃t,(s::r)[k-i]? =some t∧t.active at'=true∧fits (inp.getD k 0) t.size.toNat t.signed=false:=fun g hg=>by
   obtain⟨h1,h2,t,h3,h4,h5⟩:=packTo_err at' r (i+1) k g hg;refine⟨by omega,by rw[List.length_cons];omega,t, ?_,h4,h5⟩;rw[show k-i=(k-(i+1))+1 by omega,List.getElem?_cons_succ];exact h3
  unfold packTo at h;split at h
  ·rename_i ha
   split at h
   ·exact rec' _ h
   ·rename_i hf
    cases h;refine⟨Nat.le_refl _,by simp,s,by simp,ha,by simpa using hf⟩
  ·exact rec' _ h
theorem packTo_ok(at':Nat):∀(l:List Sig) (i:Nat) (f0 f:Nat→Bool),packTo inp at' i l f0= .ok f→
    (∀(a b:Nat) s t,l[a]? =some s→l[b]? =some t→a≠b→s.active at'=true→t.active at'=true→∀x∈s.bits,x∉t.bits)→
    (∀j,(∀s∈l,s.active at'=true→j∉s.bits)→f j=f0 j)∧
    ∀(k:Nat) s,l[k]? =some s→s.active at'=true→fits (inp.getD (i+k) 0) s.size.toNat s.signed=true∧∀(q j:Nat),s.bits[q]? =some j→f j=(inp.getD (i+k) 0).testBit q
 | [],i,f0,f,h,_=>by
  cases h;exact⟨fun _ _=>rfl,fun k s hs=>by simp at hs⟩
 | s::r,i,f0,f,h,hap=>by
  have hap':∀(a b:Nat) s t,r[a]? =some s→r[b]? =some t→a≠b→s.active at'=true→t.active at'=true→∀x∈s.bits,x∉t.bits:=
   fun a b s' t ha hb hab=>hap (a+1) (b+1) s' t (by simpa using ha) (by simpa using hb) (by omega)
  have hs0:∀t∈r,s.active at'=true→t.active at'=true→∀x∈s.bits,x∉t.bits:=fun t ht h1 h2=>by
   obtain⟨b,hb⟩:=List.getElem?_of_mem ht;exact hap 0 (b+1) s t rfl (by simpa using hb) (by omega) h1 h2
  unfold packTo at h;split at h
  ·rename_i ha
   split at h
   ·rename_i hf
    obtain⟨h1,h2⟩:=packTo_ok at' r (i+1) _ f h hap';refine⟨fun j hj=> ?_,fun k t ht hta=> ?_⟩
    ·rw[h1 j (fun t ht=>hj t (List.mem_cons_of_mem _ ht)),layF_out _ _ _ _ _ (hj s List.mem_cons_self ha)]
    ·cases k with
     | zero=>
      simp at ht;subst ht;refine⟨hf,fun q j hq=> ?_⟩;have hjm:=List.mem_of_getElem? hq;rw[h1 j (fun t ht hta'=>hs0 t ht ha hta' j hjm),layF_in _ _ 0 q _ _ s.bits_nodup hq];simp
     | succ k=>
      rw[show i+(k+1)=i+1+k by omega];exact h2 k t (by simpa using ht) hta
   ·cases h
  ·rename_i ha
   obtain⟨h1,h2⟩:=packTo_ok at' r (i+1) _ f h hap';refine⟨fun j hj=>h1 j (fun t ht=>hj t (List.mem_cons_of_mem _ ht)),fun k t ht hta=> ?_⟩
   cases k with
   | zero=>
    simp at ht;subst ht;exact absurd hta ha
   | succ k=>
    rw[show i+(k+1)=i+1+k by omega];exact h2 k t (by simpa using ht) hta
theorem Msg.Ok.apartA{m:Msg}(h:m.Ok)(at':Nat):∀(a b:Nat) s t,m.sigs[a]? =some s→m.sigs[b]? =some t→a≠b→s.active at'=true→t.active at'=true→∀x∈s.bits,x∉t.bits:=
 fun a b s t ha hb hab h1 h2=>h.apart a b s t ha hb hab (active_together h1 h2)
theorem rdF_mod{pay:List Nat}{l:List Nat}{v:Nat}(h:∀(q j:Nat),l[q]? =some j→payBit pay j=v.testBit q):rdF pay 0 l 0=v%2^l.length:=by
 apply Nat.eq_of_testBit_eq;intro j;rw[rdF_bit,Nat.testBit_mod_two_pow];simp only[Nat.zero_testBit,Bool.false_or,Nat.zero_le,decide_true,Bool.true_and,Nat.sub_zero]
 by_cases hj:j<l.length
 ·obtain⟨b,hb⟩:∃b,l[j]? =some b:=⟨_,List.getElem?_eq_getElem hj⟩
  rw[hb];simp only[hj,decide_true,Bool.true_and];exact h j b hb
 ·rw[List.getElem?_eq_none (by omega)]
  simp[hj]
theorem extend_mod{v n:Nat}(sg:Bool)(h:n≤64):extend (v%2^n) n sg=extend v n sg:=by
 have:low (v%2^n) n=low v n:=by rw[low_le h,low_le h,Nat.mod_mod]
 unfold extend;rw[this]
theorem one_back{s:Sig}{pay:List Nat}{v:Nat}(hp:s.placeNo=0)(h:∀(q j:Nat),s.bits[q]? =some j→payBit pay j=v.testBit q)(hf:fits v s.size.toNat s.signed=true):s.one pay=v:=by
 have hz:=Sig.place_ok hp;unfold Sig.one;rw[rdF_mod h,s.bits_length,extend_mod _ (by omega)];unfold fits at hf;simp at hf;exact hf.2
theorem hasTo_len(at':Nat):∀(l:List Sig) (i:Nat) (o:List Bool),(hasTo at' i l o).length=o.length
 | [],_,_=>rfl
 | s::r,i,o=>by
  show(hasTo at' (i+1) r _).length=_
  rw[hasTo_len]
  split<;>simp
theorem outTo_len(pay:List Nat)(at':Nat):∀(l:List Sig) (i:Nat) (o:List Nat),(outTo pay at' i l o).length=o.length
 | [],_,_=>rfl
 | s::r,i,o=>by
  show(outTo pay at' (i+1) r _).length=_
  rw[outTo_len]
  split<;>simp
theorem hasTo_lo(at':Nat):∀(l:List Sig) (i:Nat) (o:List Bool) (j:Nat),j<i→(hasTo at' i l o).getD j false=o.getD j false
 | [],_,_,_,_=>rfl
 | s::r,i,o,j,h=>by
  show(hasTo at' (i+1) r _).getD j false=_
  rw[hasTo_lo at' r (i+1) _ j (by omega)];split
  ·rw[getD_set,if_neg (by omega)]
  ·rfl
theorem hasTo_at(at':Nat):∀(l:List Sig) (i:Nat) (o:List Bool) (k:Nat) (s:Sig),l[k]? =some s→i+k<o.length→(hasTo at' i l o).getD (i+k) false=(s.active at'||o.getD (i+k) false)
 | [],_,_,_,_,h,_=>by simp at h
 | t::r,i,o,0,s,h,hl=>by
  simp at h;subst h
  show(hasTo at' (i+1) r _).getD (i+0) false=_
  rw[hasTo_lo at' r (i+1) _ _ (by omega)];split
  ·rename_i ha
   rw[getD_set,if_pos (by omega),ha,Bool.true_or]
  ·rename_i ha
   simp only[Bool.not_eq_true]at ha;rw[ha,Bool.false_or]
 | t::r,i,o,k+1,s,h,hl=>by
  show(hasTo at' (i+1) r _).getD (i+(k+1)) false=_
  rw[show i+(k+1)=i+1+k by omega];rw[hasTo_at at' r (i+1) (if t.active at'=true then o.set i true else o) k s (by simpa using h) (by split<;>(first | (simp;omega) | omega))];split
  ·rw[getD_set,if_neg (by omega)]
  ·rfl
theorem outTo_lo(pay:List Nat)(at':Nat):∀(l:List Sig) (i:Nat) (o:List Nat) (j:Nat),j<i→(outTo pay at' i l o).getD j 0=o.getD j 0
 | [],_,_,_,_=>rfl
 | s::r,i,o,j,h=>by
  show(outTo pay at' (i+1) r _).getD j 0=_
  rw[outTo_lo pay at' r (i+1) _ j (by omega)];split
  ·rw[getD_set,if_neg (by omega)]
  ·rfl
theorem outTo_at(pay:List Nat)(at':Nat):∀(l:List Sig) (i:Nat) (o:List Nat) (k:Nat) (s:Sig),l[k]? =some s→i+k<o.length→(outTo pay at' i l o).getD (i+k) 0=if s.active at'=true then s.one pay else o.getD (i+k) 0
 | [],_,_,_,_,h,_=>by simp at h
 | t::r,i,o,0,s,h,hl=>by
  simp at h;subst h
  show(outTo pay at' (i+1) r _).getD (i+0) 0=_
  rw[outTo_lo pay at' r (i+1) _ _ (by omega)];split
  ·rw[getD_set,if_pos (by omega)]
  ·rfl
 | t::r,i,o,k+1,s,h,hl=>by
  show(outTo pay at' (i+1) r _).getD (i+(k+1)) 0=_
  rw[show i+(k+1)=i+1+k by omega];rw[outTo_at pay at' r (i+1) (if t.active at'=true then o.set i (t.one pay)else o) k s (by simpa using h) (by split<;>(first | (simp;omega) | omega))]
  have e:(if t.active at'=true then o.set i (t.one pay)else o).getD (i+1+k) 0=o.getD (i+1+k) 0:=by
   split
   ·rw[getD_set,if_neg (by omega)]
   ·rfl
  rw[e]
def Msg.actives(m:Msg)(at':Nat):List Bool:=m.sigs.map (·.active at')
theorem getD_replicate{α:Type}(n:Nat)(v d:α)(j:Nat)(h:j<n):(List.replicate n v).getD j d=v:=by
 rw[List.getD_eq_getElem?_getD,List.getElem?_replicate,if_pos h];rfl
theorem list_getD{α:Type}(d:α){a b:List α}(hl:a.length=b.length)(h:∀j,j<b.length→a.getD j d=b.getD j d):a=b:=by
 apply List.ext_getElem?;intro j
 by_cases hj:j<b.length
 ·have h1:=h j hj
  rw[List.getD_eq_getElem?_getD,List.getD_eq_getElem?_getD,List.getElem?_eq_getElem (by omega),List.getElem?_eq_getElem hj]at h1;rw[List.getElem?_eq_getElem (by omega),List.getElem?_eq_getElem hj];simpa using h1
 ·rw[List.getElem?_eq_none (by omega),List.getElem?_eq_none (by omega)]
theorem hasTo_actives(m:Msg)(at':Nat):hasTo at' 0 m.sigs (List.replicate m.sigs.length false)=m.actives at':=by
 refine list_getD false (by rw[hasTo_len];simp[Msg.actives]) (fun j hj=> ?_)
 have hj':j<m.sigs.length:=by simpa[Msg.actives]using hj
 obtain⟨s,hs⟩:∃s,m.sigs[j]? =some s:=⟨_,List.getElem?_eq_getElem hj'⟩;have:=hasTo_at at' m.sigs 0 (List.replicate m.sigs.length false) j s hs (by simpa using hj');rw[Nat.zero_add]at this;rw[this,getD_replicate _ _ _ _ hj',Bool.or_false];unfold Msg.actives;rw[List.getD_eq_getElem?_getD,List.getElem?_map,hs];rfl
theorem back{m:Msg}(h:m.Ok){f:Nat→Bool}(hp:packTo inp (m.muxV inp) 0 m.sigs (fun _=>false)= .ok f){pay:List Nat}(hb:∀j,payBit pay j=f j):
    m.muxP pay=m.muxV inp∧∀(k:Nat) s,m.sigs[k]? =some s→s.active (m.muxV inp)=true→s.one pay=inp.getD k 0:=by
 obtain⟨_,h2⟩:=packTo_ok (m.muxV inp) m.sigs 0 _ f hp (h.apartA _)
 have key:∀(k:Nat) s,m.sigs[k]? =some s→s.active (m.muxV inp)=true→s.one pay=inp.getD k 0:=fun k s hs ha=>by
  obtain⟨h3,h4⟩:=h2 k s hs ha;rw[Nat.zero_add]at h3 h4;exact one_back (h.inPay s (List.mem_of_getElem? hs)).place (fun q j hq=>by rw[hb];exact h4 q j hq) h3
 refine⟨?_,key⟩;unfold Msg.muxP Msg.muxV at*
 cases hm:muxI m.sigs with
 | none=>rfl
 | some i=>
  obtain⟨s,hs,hr⟩:=muxI_some hm;rw[hm]at key;simp only[hs]at key⊢;refine key i s hs ?_;unfold Sig.active;simp;exact .inl (by omega)
theorem extend_fits{v n:Nat}(sg:Bool)(h1:1≤n)(h:n≤64)(hv:v<2^n):fits (extend v n sg) n sg=true∧∀q,q<n→(extend v n sg).testBit q=v.testBit q:=by
 have hlow:low v n=v:=by rw[low_le h,Nat.mod_eq_of_lt hv]
 have hmod:∃c,extend v n sg=v+c*2^n:=by
  unfold extend;rw[hlow];split
  ·rename_i hh
   have e:(2:Nat)^64=2^(64-n)*2^n:=by rw[←Nat.pow_add];congr 1;omega
   refine⟨2^(64-n)-1, ?_⟩;have hp:1≤2^(64-n):=Nat.one_le_two_pow;rw[Nat.sub_mul,Nat.one_mul,←e];have:2^n≤2^64:=Nat.pow_le_pow_right (by omega) h;omega
  ·exact⟨0,by simp⟩
 obtain⟨c,hc⟩:=hmod
 have hm:(extend v n sg)%2^n=v:=by rw[hc,Nat.add_mul_mod_self_right,Nat.mod_eq_of_lt hv]
 constructor
 ·unfold fits
  have e:extend (extend v n sg) n sg=extend v n sg:=by
   rw[←extend_mod (v:=extend v n sg) sg h,hm]
  rw[e];simp;omega
 ·intro q hq
  have:=congrArg (fun z=>z.testBit q) hm;simp only[Nat.testBit_mod_two_pow,hq,decide_true,Bool.true_and]at this;exact this
theorem one_bits{s:Sig}(pay:List Nat)(hp:s.placeNo=0):fits (s.one pay) s.size.toNat s.signed=true∧∀(q j:Nat),s.bits[q]? =some j→(s.one pay).testBit q=payBit pay j:=by
 have hz:=Sig.place_ok hp;have hlt:=rdF_lt pay s.bits;rw[s.bits_length]at hlt;obtain⟨h1,h2⟩:=extend_fits s.signed (by omega) (by omega) hlt;refine⟨h1,fun q j hq=> ?_⟩;have hql:=(List.getElem?_eq_some_iff.1 hq).1;rw[s.bits_length]at hql
 show(extend _ _ _).testBit q=_
 rw[h2 q hql,rdF_bit];simp[hq]
theorem again{m:Msg}(h:m.Ok){pay:List Nat}(hv:∀(k:Nat) s,m.sigs[k]? =some s→s.active (m.muxP pay)=true→inp.getD k 0=s.one pay):
    m.muxV inp=m.muxP pay∧∃f,packTo inp (m.muxV inp) 0 m.sigs (fun _=>false)= .ok f∧∀j,f j=true↔payBit pay j=true∧∃s∈m.sigs,s.active (m.muxP pay)=true∧j∈s.bits:=by
 have hmux:m.muxV inp=m.muxP pay:=by
  unfold Msg.muxP Msg.muxV at*
  cases hm:muxI m.sigs with
  | none=>rfl
  | some i=>
   obtain⟨s,hs,hr⟩:=muxI_some hm;rw[hm]at hv;simp only[hs]at hv⊢;refine hv i s hs ?_;unfold Sig.active;simp;exact .inl (by omega)
 refine⟨hmux, ?_⟩;rw[hmux]
 cases hpk:packTo inp (m.muxP pay) 0 m.sigs (fun _=>false)with
 | error k=>
  obtain⟨_,_,s,h3,h4,h5⟩:=packTo_err _ _ _ _ _ hpk;rw[Nat.sub_zero]at h3;rw[hv k s h3 h4,(one_bits pay (h.inPay s (List.mem_of_getElem? h3)).place).1]at h5;cases h5
 | ok f=>
  refine⟨f,rfl,fun j=> ?_⟩;obtain⟨h1,h2⟩:=packTo_ok _ _ _ _ _ hpk (h.apartA _)
  by_cases hj:∃s∈m.sigs,s.active (m.muxP pay)=true∧j∈s.bits
  ·obtain⟨s,hs,ha,hjb⟩:=hj
   obtain⟨k,hk⟩:=List.getElem?_of_mem hs;obtain⟨q,hq⟩:=List.getElem?_of_mem hjb;have h3:=(h2 k s hk ha).2 q j hq;rw[Nat.zero_add,hv k s hk ha,(one_bits pay (h.inPay s hs).place).2 q j hq]at h3;rw[h3];exact⟨fun hb=>⟨hb,s,hs,ha,hjb⟩,fun hb=>hb.1⟩
  ·rw[h1 j (fun s hs ha hb=>hj ⟨s,hs,ha,hb⟩)]
   simp only[Bool.false_eq_true,false_iff]
   exact fun hb=>hj hb.2
end Go.Proofs.YtljhklblbafjkaaGreatDoor.B
namespace Go.Proofs.YtljhklblbafjkaaGreatDoor.B
instance:DecidableEq ByteArray:=fun a b=>decidable_of_iff (a.data=b.data) (by cases a;cases b;simp)
def letterB(c:Nat):Bool:=decide (97≤c∧c≤122)||decide (65≤c∧c≤90)||decide (c=95)
def digitB(c:Nat):Bool:=decide (48≤c∧c≤57)
def nameAt(s:ByteArray)(i:Nat):Bool:=letterB (s.get! i).toNat||(!decide (i=0)&&digitB (s.get! i).toNat)
def nameOk(s:ByteArray):Bool:=(List.range s.size).all (nameAt s)&&decide (1≤s.size∧s.size≤64)
def kept:List ByteArray:=["VERSION".toUTF8, "BU_".toUTF8, "BO_".toUTF8, "SG_".toUTF8, "VAL_".toUTF8, "CM_".toUTF8]
def wordOk(s:ByteArray):Bool:= !(kept.any fun k=>decide (k=s))&&nameOk s
def controlR(r:Nat):Bool:=decide (r<32)||decide (r=127)
def textNo(s:ByteArray):Int:=if 1024<s.size then 5 else if Lib.validD s.data.toList=true∧¬0≤Lib.idxFunc controlR true s then 0 else 6
def Rt.right(x:Rt):Bool:=decide (1≤x.den)&&decide (Nat.gcd x.num.natAbs x.den.toNat=1)
def Rt.above(a b:Rt):Bool:=decide (b.num*a.den<a.num*b.den)
def Sig.rangedNo(s:Sig):Int:=
 if(s.scale.right&&s.offset.right&&s.min.right&&s.max.right)=false then 1 else if s.scale.num=0 then 10 else if s.min.above s.max=true then 18 else 0
def firstAt(f:Nat→Int)(n:Nat):Option Nat:=(List.range n).find? fun i=> !decide (f i=0)
theorem firstAt_none{f:Nat→Int}{n:Nat}(h:∀i,i<n→f i=0):firstAt f n=none:=by
 unfold firstAt;rw[List.find?_eq_none];intro i hi;simpa using h i (List.mem_range.1 hi)
theorem firstAt_of_none{f:Nat→Int}{n:Nat}(h:firstAt f n=none):∀i,i<n→f i=0:=fun i hi=>by
 unfold firstAt at h;rw[List.find?_eq_none]at h;simpa using h i (List.mem_range.2 hi)
theorem firstAt_some{f:Nat→Int}{n i:Nat}(h:∀k,k<i→f k=0)(hi:i<n)(hf:f i≠0):firstAt f n=some i:=by
 unfold firstAt;rw[List.find?_range_eq_some];refine⟨by simpa using hf,List.mem_range.2 hi,fun k hk=> ?_⟩;simpa using h k hk
def wordNo(l:List ByteArray)(i:Nat):Int:=match l[i]? with
 | some s=>if wordOk s=false then 11 else if(l.take i).any (fun t=>decide (t=s))=true then 12 else 0
 | none=>0
def firstNo(f:Nat→Int)(n:Nat):Int:=match firstAt f n with
 | some i=>f i
 | none=>0
def listNo(l:List ByteArray)(most:Nat):Int:=if most<l.length then 5 else firstNo (wordNo l) l.length
def Sig.aloneNo(s:Sig)(size:Int):Int:=
 if wordOk s.name=false then 11
 else if s.role<0∨2<s.role∨(s.branch≠0∧s.role≠2)then 14
 else if s.whereNo size≠0 then s.whereNo size
 else if s.rangedNo≠0 then s.rangedNo
 else if textNo s.unit≠0 then textNo s.unit
 else if s.dest.length=0 then 2
 else listNo s.dest 64
def Msg.headNo(m:Msg):Int:=
 if wordOk m.name=false then 11
 else if(if m.wide=true then 536870911 else 2047)<m.id then 26
 else if m.size<0∨8<m.size then 15
 else if wordOk m.sender=false then 11
 else if 64<m.sigs.length then 5 else 0
def Msg.sigNo(m:Msg)(i:Nat):Int:=match m.sigs[i]? with
 | some s=>if s.aloneNo m.size≠0 then s.aloneNo m.size else if(m.sigs.take i).any (fun t=>decide (t.name=s.name))=true then 12
  else if s.role=1∧(m.sigs.take i).any (fun t=>decide (t.role=1))=true then 14 else 0
 | none=>0
def Msg.brNo(m:Msg)(i:Nat):Int:=match m.sigs[i]? with
 | some s=>if s.role=2 then(match muxI m.sigs with
     | some k=>match m.sigs[k]? with
      | some z=>if fits s.branch.toNat z.size.toNat z.signed=true then 0 else 14
      | none=>14
     | none=>14)else 0
 | none=>0
def meets(s t:Sig):Bool:=(!decide (s.role=2)|| !decide (t.role=2)||decide (s.branch=t.branch))&&s.bits.any (fun b=>decide (b∈t.bits))
def Msg.meetNo(m:Msg)(i:Nat):Int:=match m.sigs[i]? with
 | some s=>if(m.sigs.take i).any (fun t=>meets t s)=true then 17 else 0
 | none=>0
def Msg.atSig(m:Msg)(i:Nat)(no:Int):Int×Int×Int:=match m.sigs[i]? with
 | some s=>(no,s.line,s.col)
 | none=>(no,0,0)
def Msg.no(m:Msg):Int×Int×Int:=
 if m.headNo≠0 then(m.headNo,m.line,m.col)
 else match firstAt m.sigNo m.sigs.length with
  | some i=>m.atSig i (m.sigNo i)
  | none=>match firstAt m.brNo m.sigs.length with
   | some i=>m.atSig i 14
   | none=>match firstAt m.meetNo m.sigs.length with
    | some i=>m.atSig i 17
    | none=>(0,0,0)
theorem Msg.atSig_fst(m:Msg)(i:Nat)(no:Int):(m.atSig i no).1=no:=by
 unfold Msg.atSig
 split<;>rfl
theorem firstAt_ne{f:Nat→Int}{n i:Nat}(h:firstAt f n=some i):f i≠0∧i<n∧∀k,k<i→f k=0:=by
 unfold firstAt at h;rw[List.find?_range_eq_some]at h;exact⟨by simpa using h.1,List.mem_range.1 h.2.1,fun k hk=>by simpa using h.2.2 k hk⟩
theorem Msg.no_zero{m:Msg}(h:m.no.1=0):m.headNo=0∧(∀i,i<m.sigs.length→m.sigNo i=0)∧(∀i,i<m.sigs.length→m.brNo i=0)∧∀i,i<m.sigs.length→m.meetNo i=0:=by
 unfold Msg.no at h;split at h
 ·rename_i h1;exact absurd h h1
 ·rename_i h1
  split at h
  ·rename_i i hi
   rw[Msg.atSig_fst]at h;exact absurd h (firstAt_ne hi).1
  ·rename_i h2
   split at h
   ·rw[Msg.atSig_fst]at h;omega
   ·rename_i h3
    split at h
    ·rw[Msg.atSig_fst]at h;omega
    ·rename_i h4
     exact⟨by simpa using h1,firstAt_of_none h2,firstAt_of_none h3,firstAt_of_none h4⟩
theorem Msg.no_of{m:Msg}(h1:m.headNo=0)(h2:∀i,i<m.sigs.length→m.sigNo i=0)(h3:∀i,i<m.sigs.length→m.brNo i=0)(h4:∀i,i<m.sigs.length→m.meetNo i=0):m.no=(0,0,0):=by
 unfold Msg.no;rw[if_neg (by simpa using h1),firstAt_none h2,firstAt_none h3,firstAt_none h4]
theorem Sig.alone_where{s:Sig}{size:Int}(h:s.aloneNo size=0):s.whereNo size=0∧0≤s.role∧s.role≤2∧(s.role≠2→s.branch=0):=by
 unfold Sig.aloneNo at h;split at h
 ·omega
 ·split at h
  ·omega
  ·rename_i h2
   split at h
   ·rename_i h3;exact absurd h h3
   ·rename_i h3
    refine⟨by simpa using h3,by omega,by omega,fun hr=> ?_⟩
    by_cases hb:s.branch=0
    ·exact hb
    ·exact absurd (.inr (.inr ⟨hb,hr⟩)) h2
theorem Msg.ok_of{m:Msg}(h:m.no.1=0)(hb:∀s∈m.sigs,InU64 s.branch):m.Ok:=by
 obtain⟨h1,h2,h3,h4⟩:=Msg.no_zero h
 have hal:∀(i:Nat) s,m.sigs[i]? =some s→s.aloneNo m.size=0:=fun i s hs=>by
  have:=h2 i (List.getElem?_eq_some_iff.1 hs).1;unfold Msg.sigNo at this;rw[hs]at this;simp only at this;split at this
  ·rename_i h5;exact absurd this h5
  ·rename_i h5;simpa using h5
 have hhead:(0≤m.size∧m.size≤8)∧m.sigs.length≤64:=by
  unfold Msg.headNo at h1;split at h1
  ·omega
  ·split at h1
   ·omega
   ·split at h1
    ·omega
    ·split at h1
     ·omega
     ·split at h1
      ·omega
      ·exact⟨by omega,by omega⟩
 have hmeet:∀(i k:Nat) s t,m.sigs[i]? =some s→m.sigs[k]? =some t→k<i→meets t s=false:=fun i k s t hs ht hk=>by
  have:=h4 i (List.getElem?_eq_some_iff.1 hs).1;unfold Msg.meetNo at this;rw[hs]at this;simp only at this;split at this
  ·omega
  ·rename_i h5
   simp only[Bool.not_eq_true,List.any_eq_false]at h5;have hm:t∈m.sigs.take i:=List.mem_of_getElem? (i:=k) (by rw[List.getElem?_take,if_pos hk];exact ht);simpa using h5 t hm
 refine⟨hhead.1,hhead.2,fun s hs=> ?_,hb,fun⟨s,hs,hr⟩ hm=> ?_,fun i k s t hs ht hik htg b hbs hbt=> ?_⟩
 ·obtain⟨i,hi⟩:=List.getElem?_of_mem hs
  exact(Sig.alone_where (hal i s hi)).1
 ·obtain⟨i,hi⟩:=List.getElem?_of_mem hs
  have:=h3 i (List.getElem?_eq_some_iff.1 hi).1;unfold Msg.brNo at this;rw[hi,hm]at this;simp[hr]at this
 ·rcases Nat.lt_or_gt_of_ne hik with hlt | hlt
  ·have:=hmeet k i t s ht hs hlt
   unfold meets at this;have e:s.bits.any (fun b=>decide (b∈t.bits))=true:=List.any_eq_true.2 ⟨b,hbs,by simpa using hbt⟩;rw[e,Bool.and_true]at this;simp at this;unfold Together at htg;rcases htg with h | h | h
   ·exact h this.1.1
   ·exact h this.1.2
   ·exact this.2 h
  ·have:=hmeet i k s t hs ht hlt
   unfold meets at this;have e:t.bits.any (fun b=>decide (b∈s.bits))=true:=List.any_eq_true.2 ⟨b,hbt,by simpa using hbs⟩;rw[e,Bool.and_true]at this;simp at this;unfold Together at htg;rcases htg with h | h | h
   ·exact h this.1.2
   ·exact h this.1.1
   ·exact this.2 h.symm
end Go.Proofs.YtljhklblbafjkaaGreatDoor.B
namespace Go.Proofs.YtljhklblbafjkaaGreatDoor.B
def turnName(i:Nat):ByteArray:=⟨#[UInt8.ofNat (97+i/8),UInt8.ofNat (97+i%8)]⟩
def turnS(i:Nat)(s:Sig):Sig:= { s with name:=turnName i,scale:=⟨-3,7⟩,min:=⟨5,1⟩,max:=⟨5,1⟩,unit:= "?".toUTF8,dest:=["Z".toUTF8]}
def Msg.turned(m:Msg):Msg:= { m with name:= "Other".toUTF8,id:=3,line:=9,col:=9,sigs:=m.sigs.mapIdx turnS}
end Go.Proofs.YtljhklblbafjkaaGreatDoor.B
namespace Go.Proofs.YtljhklblbafjkaaGreatDoor.B
theorem no_head{m:Msg}(h:m.headNo≠0):m.no=(m.headNo,m.line,m.col):=by
 unfold Msg.no;rw[if_pos h]
theorem no_sig{m:Msg}(h:m.headNo=0){k:Nat}{s:Sig}(hs:m.sigs[k]? =some s)(hk:∀i,i<k→m.sigNo i=0)(hn:m.sigNo k≠0):m.no=(m.sigNo k,s.line,s.col):=by
 have hlt:=(List.getElem?_eq_some_iff.1 hs).1;unfold Msg.no;rw[if_neg (by simp[h]),firstAt_some hk hlt hn];unfold Msg.atSig
 dsimp only
 rw[hs]
theorem no_br{m:Msg}(h:m.headNo=0)(h1:∀i,i<m.sigs.length→m.sigNo i=0){k:Nat}{s:Sig}(hs:m.sigs[k]? =some s)(hk:∀i,i<k→m.brNo i=0)(hn:m.brNo k≠0):m.no=(14,s.line,s.col):=by
 have hlt:=(List.getElem?_eq_some_iff.1 hs).1;unfold Msg.no;rw[if_neg (by simp[h]),firstAt_none h1,firstAt_some hk hlt hn];unfold Msg.atSig
 dsimp only
 rw[hs]
theorem no_meet{m:Msg}(h:m.headNo=0)(h1:∀i,i<m.sigs.length→m.sigNo i=0)(h2:∀i,i<m.sigs.length→m.brNo i=0){k:Nat}{s:Sig}(hs:m.sigs[k]? =some s)(hk:∀i,i<k→m.meetNo i=0)(hn:m.meetNo k≠0):m.no=(17,s.line,s.col):=by
 have hlt:=(List.getElem?_eq_some_iff.1 hs).1;unfold Msg.no;rw[if_neg (by simp[h]),firstAt_none h1,firstAt_none h2,firstAt_some hk hlt hn];unfold Msg.atSig
 dsimp only
 rw[hs]
def muxZ(l:List Sig):Int:=match muxI l with
 | some i=>(i:Int)
 | none=> -1
def isMuxAt(l:List Sig)(i:Nat):Bool:=match l[i]? with
 | some s=>decide (s.role=1)
 | none=>false
theorem muxI_def(l:List Sig):muxI l=(List.range l.length).find? (isMuxAt l):=rfl
theorem find_congr{p q:Nat→Bool}:∀(L:List Nat),(∀i∈L,p i=q i)→L.find? p=L.find? q
 | [],_=>rfl
 | x::L,h=>by
  rw[List.find?_cons,List.find?_cons,h x (List.mem_cons_self ..),find_congr L (fun i hi=>h i (List.mem_cons_of_mem _ hi))]
theorem muxI_snoc(l:List Sig)(s:Sig):muxI (l++[s])=match muxI l with
    | some i=>some i
    | none=>if s.role=1 then some l.length else none:=by
 rw[muxI_def,muxI_def,List.length_append,List.length_singleton,List.range_succ,List.find?_append]
 have e:(List.range l.length).find? (isMuxAt (l++[s]))=(List.range l.length).find? (isMuxAt l):=by
  refine find_congr _ fun i hi=> ?_
  unfold isMuxAt;rw[List.getElem?_append_left (List.mem_range.1 hi)]
 have e2:isMuxAt (l++[s]) l.length=decide (s.role=1):=by
  unfold isMuxAt;simp
 rw[e]
 cases(List.range l.length).find? (isMuxAt l)with
 | some i=>rfl
 | none=>
  by_cases h:s.role=1
  ·simp[e2,h]
  ·simp[e2,h]
theorem muxI_any:∀(l:List Sig),(muxI l).isSome=l.any (fun t=>decide (t.role=1)):=by
 intro l;rw[Bool.eq_iff_iff];constructor
 ·intro h
  obtain⟨i,hi⟩:=Option.isSome_iff_exists.1 h;obtain⟨s,hs,hr⟩:=muxI_some hi;exact List.any_eq_true.2 ⟨s,List.mem_of_getElem? hs,by simp[hr]⟩
 ·intro h
  obtain⟨s,hs,hr⟩:=List.any_eq_true.1 h
  cases hm:muxI l with
  | some i=>rfl
  | none=>exact absurd (by simpa using hr) (muxI_none hm s hs)
theorem muxZ_sign(l:List Sig):(muxZ l<0↔l.any (fun t=>decide (t.role=1))=false)∧(0≤muxZ l↔l.any (fun t=>decide (t.role=1))=true):=by
 rw[←muxI_any];unfold muxZ
 cases muxI l with
 | none=>simp
 | some i=>simp
theorem muxZ_next{l:List Sig}{k:Nat}{s:Sig}(hs:l[k]? =some s)(h:¬(s.role=1∧(l.take k).any (fun t=>decide (t.role=1))=true)):
    muxZ (l.take (k+1))=if s.role=1 then(k:Int)else muxZ (l.take k):=by
 have hlt:=(List.getElem?_eq_some_iff.1 hs).1;rw[List.take_add_one,hs]
 show muxZ (l.take k++[s])=_
 have ha:=muxI_any (l.take k);unfold muxZ;rw[muxI_snoc]
 by_cases hr:s.role=1
 ·have h2:(l.take k).any (fun t=>decide (t.role=1))=false:=by
    cases hb:(l.take k).any (fun t=>decide (t.role=1))with
    | false=>rfl
    | true=>exact absurd ⟨hr,hb⟩ h
  rw[h2]at ha
  cases hm:muxI (l.take k)with
  | some i=>rw[hm]at ha;cases ha
  | none=>simp[hr];omega
 ·cases hm:muxI (l.take k)with
  | some i=>simp[hr]
  | none=>simp[hr]
end Go.Proofs.YtljhklblbafjkaaGreatDoor.B
namespace Go.Proofs.YtljhklblbafjkaaGreatDoor.B
theorem actives_get{m:Msg}{at' k:Nat}{s:Sig}(hs:m.sigs[k]? =some s):(m.actives at').getD k false=s.active at':=by
 unfold Msg.actives;rw[List.getD_eq_getElem?_getD,List.getElem?_map,hs];rfl
end Go.Proofs.YtljhklblbafjkaaGreatDoor.B
