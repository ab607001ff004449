/- Plain Lean: moves of bits, told by their instructions; what is read from a place on; to where skips come. -/
import Derived.Test.YtpibampaobncaaaGreatDoorPlainQ
import Derived.Laws.BitsAllLaws
import Derived.IntWalk
open Nat renaming le_refl→lR'
namespace Go.Proofs.YtpibampaobncaaaGreatDoor.B
structure Mv where
 inn:Bool
 t:Int
 v:Int
 way:Int
 b:Nat
 e:Nat
 bits:Nat
 size:Nat
def lowBits(v n:Nat):Nat:=v%2^(8*n)
def shiftOf(t:Int):List Ins→Int×List Ins
 | []=>(0,[])
 | x::l=>if x.a=t∧x.op=6 then(x.n,l)else if x.a=t∧x.op=7 then(-x.n,l)else(0,x::l)
def readMv:List Ins→Option Mv
 | x::y::l=>
  if x.op=2∧x.a≠x.b then
   match(shiftOf x.a (y::l)).2 with
   | z::r=>if z.op=13∧z.a=x.a then some ⟨true,x.a,x.b,8*z.b+(shiftOf x.a (y::l)).1,z.b.toNat,(z.b+z.n).toNat,lowBits z.imm.toNat z.n.toNat,l.length+2-r.length⟩else none
   | []=>none
  else if x.op=9∧y.op=8∧y.a=x.a then
   match(shiftOf x.a l).2 with
   | z::r=>if z.op=4∧z.b=x.a∧z.a≠x.a then some ⟨false,x.a,z.a,(shiftOf x.a l).1-8*x.b,x.b.toNat,(x.b+x.n).toNat,lowBits y.imm.toNat x.n.toNat,l.length+2-r.length⟩else none
   | []=>none
  else none
 | _=>none
theorem shiftOf_cons(t:Int)(x:Ins)(l:List Ins):shiftOf t (x::l)=if x.a=t∧x.op=6 then(x.n,l)else if x.a=t∧x.op=7 then(-x.n,l)else(0,x::l):=rfl
theorem readMv_cons (x y : Ins) (l : List Ins) : readMv (x :: y :: l) = if x.op = 2 ∧ x.a ≠ x.b then
      match(shiftOf x.a (y::l)).2 with
      | z::r=>if z.op=13∧z.a=x.a then some ⟨true,x.a,x.b,8*z.b+(shiftOf x.a (y::l)).1,z.b.toNat,(z.b+z.n).toNat,lowBits z.imm.toNat z.n.toNat,l.length+2-r.length⟩else none
      | []=>none
    else if x.op=9∧y.op=8∧y.a=x.a then
     match(shiftOf x.a l).2 with
     | z::r=>if z.op=4∧z.b=x.a∧z.a≠x.a then some ⟨false,x.a,z.a,(shiftOf x.a l).1-8*x.b,x.b.toNat,(x.b+x.n).toNat,lowBits y.imm.toNat x.n.toNat,l.length+2-r.length⟩else none
     | []=>none
    else none:=rfl
inductive Sh (t:Int):Int→List Ins→Prop where
 | none:Sh t 0 []
 | up (x:Ins):x.op=6→x.a=t→Sh t x.n [x]
 | down (x:Ins):x.op=7→x.a=t→Sh t (-x.n) [x]
inductive IsMv:Mv→List Ins→Prop where
 | inn {x z:Ins} {sh:List Ins} {s:Int}:x.op=2→x.a≠x.b→Sh x.a s sh→z.op=13→z.a=x.a→
     IsMv ⟨true,x.a,x.b,8*z.b+s,z.b.toNat,(z.b+z.n).toNat,lowBits z.imm.toNat z.n.toNat,sh.length+2⟩ (x::(sh++[z]))
 | out {x y z:Ins} {sh:List Ins} {s:Int}:x.op=9→y.op=8→y.a=x.a→Sh x.a s sh→z.op=4→z.b=x.a→z.a≠x.a→
     IsMv ⟨false,x.a,z.a,s-8*x.b,x.b.toNat,(x.b+x.n).toNat,lowBits y.imm.toNat x.n.toNat,sh.length+3⟩ (x::y::(sh++[z]))
theorem shiftOf_sh(t:Int)(l:List Ins):∃sh,l=sh++(shiftOf t l).2∧Sh t (shiftOf t l).1 sh:=by
 cases l with
 | nil=>exact⟨[],rfl,.none⟩
 | cons x l=>
  rw[shiftOf_cons]
  by_cases h1:x.a=t∧x.op=6
  ·rw[if_pos h1];exact⟨[x],rfl,.up x h1.2 h1.1⟩
  ·rw[if_neg h1]
   by_cases h2:x.a=t∧x.op=7
   ·rw[if_pos h2];exact⟨[x],rfl,.down x h2.2 h2.1⟩
   ·rw[if_neg h2];exact⟨[],rfl,.none⟩
theorem sh_shiftOf{t s:Int}{sh:List Ins}(h:Sh t s sh)(z:Ins)(r:List Ins)(h6:z.op≠6)(h7:z.op≠7):shiftOf t (sh++z::r)=(s,z::r):=by
 cases h with
 | none=>unfold shiftOf;simp[h6,h7]
 | up x h1 h2=>simp[shiftOf,h1,h2]
 | down x h1 h2=>simp[shiftOf,h1,h2]
theorem sh_len{t s:Int}{sh:List Ins}(h:Sh t s sh):sh.length≤1:=by cases h<;>simp
theorem sh_ops{t s:Int}{sh:List Ins}(h:Sh t s sh):∀x∈sh,(x.op=6∨x.op=7)∧x.a=t:=by
 cases h with
 | none=>simp
 | up x h1 h2=>simp[h1,h2]
 | down x h1 h2=>simp[h1,h2]
theorem readMv_of{m:Mv}{c:List Ins}(h:IsMv m c)(r:List Ins):readMv (c++r)=some m:=by
 cases h with
 | @inn x z sh s h1 h2 h3 h4 h5=>
  have hs:=sh_shiftOf h3 z r (by omega) (by omega)
  obtain⟨y,l,hl⟩:∃y l,sh++z::r=y::l:=by cases sh<;>exact⟨_,_,rfl⟩
  have hlen:l.length+1=sh.length+(r.length+1):=by
   have:=congrArg List.length hl;simp at this;omega
  rw[List.cons_append,List.append_assoc,List.singleton_append,hl];rw[hl]at hs;rw[readMv_cons,if_pos ⟨h1,h2⟩,hs];simp only;rw[if_pos ⟨h4,h5⟩];simp only[Option.some.injEq,Mv.mk.injEq,true_and];omega
 | @out x y z sh s h1 h2 h3 h4 h5 h6 h7=>
  have hs:=sh_shiftOf h4 z r (by omega) (by omega);rw[List.cons_append,List.cons_append,List.append_assoc,List.singleton_append];rw[readMv_cons,if_neg (by omega),if_pos ⟨h1,h2,h3⟩,hs];simp only;rw[if_pos ⟨h5,h6,h7⟩];simp only[Option.some.injEq,Mv.mk.injEq,true_and];simp;omega
theorem readMv_inv{l:List Ins}{m:Mv}(h:readMv l=some m):∃c r,l=c++r∧IsMv m c:=by
 match l,h with
 | [],h=>simp[readMv]at h
 | [_],h=>simp[readMv]at h
 | x::y::l,h=>
  rw[readMv_cons]at h
  by_cases h1:x.op=2∧x.a≠x.b
  ·rw[if_pos h1]at h
   obtain⟨sh,hl,hsh⟩:=shiftOf_sh x.a (y::l);generalize shiftOf x.a (y::l)=q at h hl hsh;obtain⟨s,q⟩:=q
   cases q with
   | nil=>simp at h
   | cons z r=>
    simp only at h hl hsh
    by_cases h2:z.op=13∧z.a=x.a
    ·rw[if_pos h2]at h
     have hlen:=congrArg List.length hl;simp only[List.length_cons,List.length_append]at hlen;refine⟨x::(sh++[z]),r,by rw[hl];simp, ?_⟩
     have e:l.length+2-r.length=sh.length+2:=by omega
     rw[e]at h;rw[←Option.some.inj h];exact .inn h1.1 h1.2 hsh h2.1 h2.2
    ·rw[if_neg h2]at h;cases h
  ·rw[if_neg h1]at h
   by_cases h2:x.op=9∧y.op=8∧y.a=x.a
   ·rw[if_pos h2]at h
    obtain⟨sh,hl,hsh⟩:=shiftOf_sh x.a l;generalize shiftOf x.a l=q at h hl hsh;obtain⟨s,q⟩:=q
    cases q with
    | nil=>simp at h
    | cons z r=>
     simp only at h hl hsh
     by_cases h3:z.op=4∧z.b=x.a∧z.a≠x.a
     ·rw[if_pos h3]at h
      have hlen:=congrArg List.length hl;simp only[List.length_cons,List.length_append]at hlen;refine⟨x::y::(sh++[z]),r,by rw[hl];simp, ?_⟩
      have e:l.length+2-r.length=sh.length+3:=by omega
      rw[e]at h;rw[←Option.some.inj h];exact .out h2.1 h2.2.1 h2.2.2 hsh h3.1 h3.2.1 h3.2.2
     ·rw[if_neg h3]at h;cases h
   ·rw[if_neg h2]at h;cases h
theorem IsMv.length{m:Mv}{c:List Ins}(h:IsMv m c):c.length=m.size:=by
 cases h<;>simp
theorem IsMv.size_ge{m:Mv}{c:List Ins}(h:IsMv m c):2≤m.size:=by
 cases h<;>simp
theorem IsMv.head{m:Mv}{c:List Ins}(h:IsMv m c):∃x l,c=x::l∧(x.op=2∨x.op=9)∧∀y∈l,y.op=4∨y.op=6∨y.op=7∨y.op=8∨y.op=13:=by
 cases h with
 | @inn x z sh s h1 _ h3 h4 _=>
  refine⟨_,_,rfl,.inl h1, ?_⟩;intro y hy;rcases List.mem_append.1 hy with h | h
  ·have:=(sh_ops h3 y h).1;omega
  ·rw[List.mem_singleton.1 h];omega
 | @out x y z sh s h1 h2 _ h4 h5 _ _=>
  refine⟨_,_,rfl,.inr h1, ?_⟩;intro u hu;rcases List.mem_cons.1 hu with h | h
  ·rw[h];omega
  ·rcases List.mem_append.1 h with h | h
   ·have:=(sh_ops h4 u h).1;omega
   ·rw[List.mem_singleton.1 h];omega
theorem IsMv.ops{m:Mv}{c:List Ins}(h:IsMv m c):∀y∈c,y.op=2∨y.op=9∨y.op=4∨y.op=6∨y.op=7∨y.op=8∨y.op=13:=by
 obtain⟨x,l,rfl,h1,h2⟩:=h.head;intro y hy;rcases List.mem_cons.1 hy with h | h
 ·rw[h];omega
 ·have:=h2 y h;omega
theorem mv_next{y:Ins}(h:y.op=2∨y.op=9∨y.op=4∨y.op=6∨y.op=7∨y.op=8∨y.op=13):y.next=true∧y.skips=false:=by
 unfold Ins.next Ins.skips;simp;omega
theorem readMv_stop{u r:List Ins}{h:Ins}(ho:h.op=2∨h.op=9)(hu:u≠[]):readMv (u++h::r)=readMv u:=by
 cases hm:readMv (u++h::r)with
 | some m=>
  obtain⟨c,r',e,hc⟩:=readMv_inv hm;obtain⟨x,l,rfl,h1,h2⟩:=hc.head
  have hle:(x::l).length≤u.length:=by
   apply Classical.byContradiction;intro hn
   have hlt:u.length<(x::l).length:=by omega
   have e1:(u++h::r)[u.length]? =some h:=by simp
   rw[e,List.getElem?_append_left hlt]at e1;have hpos:0<u.length:=List.length_pos_iff.2 hu;obtain⟨k,hk⟩:∃k,u.length=k+1:=⟨u.length-1,by omega⟩;rw[hk,List.getElem?_cons_succ]at e1;have:=h2 h (List.mem_of_getElem? e1);omega
  have e2:u=(x::l)++u.drop (x::l).length:=by
   have h3:=congrArg (List.take (x::l).length) e;rw[List.take_append_of_le_length hle,List.take_left'  rfl]at h3
   conv=>lhs;rw[←List.take_append_drop (x::l).length u]
   rw[h3]
  rw[e2,readMv_of hc]
 | none=>
  cases hm':readMv u with
  | none=>rfl
  | some m=>
   obtain⟨c,r',e,hc⟩:=readMv_inv hm';rw[e,List.append_assoc,readMv_of hc]at hm;cases hm
theorem readMv_congr:∀ {l l':List Ins},l.length=l'.length→(∀(k:Nat) x x',l[k]? =some x→l'[k]? =some x'→x=x'∨(x.skips=true∧x'.skips=true))→readMv l=readMv l':=by
 have one:∀ {l l':List Ins} {m:Mv},l.length=l'.length→(∀(k:Nat) x x',l[k]? =some x→l'[k]? =some x'→x=x'∨(x.skips=true∧x'.skips=true))→readMv l=some m→readMv l'=some m:=by
  intro l l' m hlen h hm;obtain⟨c,r,rfl,hc⟩:=readMv_inv hm
  have e:l'=c++l'.drop c.length:=by
   apply List.ext_getElem?;intro k
   by_cases hk:k<c.length
   ·rw[List.getElem?_append_left hk]
    have h1:(c++r)[k]? =some c[k]:=by rw[List.getElem?_append_left hk];exact List.getElem?_eq_getElem hk
    have hk':k<l'.length:=by rw[←hlen];simp;omega
    have h2:=List.getElem?_eq_getElem hk';rw[h2,List.getElem?_eq_getElem hk];rcases h k _ _ h1 h2 with h3 | ⟨h3,_⟩
    ·rw[h3]
    ·have:=(mv_next (hc.ops c[k] (List.getElem_mem hk))).2
     rw[this]at h3;cases h3
   ·rw[List.getElem?_append_right (by omega),List.getElem?_drop]
    congr 1;omega
  rw[e];exact readMv_of hc _
 intro l l' hlen h
 cases hm:readMv l with
 | some m=>exact(one hlen h hm).symm
 | none=>
  cases hm':readMv l' with
  | none=>rfl
  | some m=>
   have:=one hlen.symm (fun k x x' h1 h2=>by
    rcases h k x' x h2 h1 with h3 | ⟨h3,h4⟩
    ·exact .inl h3.symm
    ·exact .inr ⟨h4,h3⟩) hm'
   rw[this]at hm;cases hm
def ndL:List Ins→Nat→Nat→Bool
 | [],_,_=>false
 | x::l,0,r=>x.reads r||(((x.next&&ndL l 0 r)||(x.skips&&ndL l x.n.toNat r))&& !x.writes r)
 | _::l,j+1,r=>ndL l j r
theorem ndL_far:∀(p:List Ins) (i r:Nat),p.length≤i→ndL p i r=false
 | [],_,_,_=>rfl
 | _::l,0,_,h=>by simp at h
 | _::l,i+1,r,h=>by unfold ndL;exact ndL_far l i r (by simpa using h)
theorem ndL_drop:∀(p:List Ins) (i j r:Nat),ndL p (i+j) r=ndL (p.drop i) j r
 | p,0,j,r=>by rw[Nat.zero_add];rfl
 | [],i+1,j,r=>by simp[ndL]
 | x::l,i+1,j,r=>by
  rw[List.drop_succ_cons,show i+1+j=(i+j)+1 by omega]
  show ndL l (i+j) r=_
  exact ndL_drop l i j r
theorem nd_eq{p:List Ins}{i:Nat}{x:Ins}(hx:p[i]? =some x)(r:Nat):ndL p i r=(x.reads r||(behind x i (ndL p) r&& !x.writes r)):=by
 have hlt:=(List.getElem?_eq_some_iff.1 hx).1
 have e:p.drop i=x::p.drop (i+1):=by
  rw[List.drop_eq_getElem_cons hlt];rw[(List.getElem?_eq_some_iff.1 hx).2]
 have h0:=ndL_drop p i 0 r;rw[Nat.add_zero]at h0;have h1:=ndL_drop p (i+1) 0 r;have h2:=ndL_drop p (i+1) x.n.toNat r;rw[Nat.add_zero]at h1;unfold behind;rw[h0,h1,h2,e];rfl
theorem nd_may{p:List Ins}{r:Nat}(h:∀(j:Nat) x,p[j]? =some x→x.reads r=true→¬May p r j):∀j,May p r j→ndL p j r=false:=by
 refine pc_ind (p:=p) (P:=fun j=>May p r j→ndL p j r=false) ?_ ?_
 ·intro j hj _;exact ndL_far p j r hj
 ·intro j x hx ih hm
  rw[Bool.eq_false_iff];intro hrd;rw[nd_eq hx r]at hrd
  have hnr:x.reads r=false:=by rw[Bool.eq_false_iff];intro h';exact h j x hx h' hm
  rw[hnr]at hrd;simp at hrd;obtain⟨j',hg,hrd'⟩:=behind_inv hrd.1;rw[ih j' (Ins.goes_lt hg) (.step hm hx hrd.2 hg)]at hrd';cases hrd'
theorem may_nd{p:List Ins}{r:Nat}(h:ndL p 0 r=false):∀j,May p r j→ndL p j r=false:=by
 intro j hm
 induction hm with
 | start=>exact h
 | @step i j x hm hx hw hg ih=>
  rw[Bool.eq_false_iff];intro hrd;rw[nd_eq hx r,behind_goes hg hrd,hw]at ih;simp at ih
theorem nd_read{p:List Ins}{r:Nat}(h:ndL p 0 r=false){j:Nat}{x:Ins}(hx:p[j]? =some x)(hr:x.reads r=true):¬May p r j:=by
 intro hm;have:=may_nd h j hm;rw[nd_eq hx r,hr]at this;simp at this
def entd(p:List Ins)(j:Nat):Bool:=(List.range p.length).any fun k=>match p[k]? with | some x=>x.skips&&decide (k+1+x.n.toNat=j) | none=>false
theorem entd_iff(p:List Ins)(j:Nat):entd p j=true↔∃(k:Nat) (x:Ins),p[k]? =some x∧x.skips=true∧k+1+x.n.toNat=j:=by
 unfold entd;rw[List.any_eq_true];constructor
 ·rintro⟨k,hk,h⟩
  cases hx:p[k]? with
  | none=>rw[hx]at h;simp at h
  | some x=>rw[hx]at h;simp at h;exact⟨k,x,hx,h⟩
 ·rintro⟨k,x,hx,h1,h2⟩
  exact⟨k,List.mem_range.2 (List.getElem?_eq_some_iff.1 hx).1,by rw[hx];simp[h1,h2]⟩
theorem inside_iff(p:List Ins)(a b:Nat):someIn (entd p) a b=true↔∃(k:Nat) (x:Ins),p[k]? =some x∧x.skips=true∧a≤k+1+x.n.toNat∧k+1+x.n.toNat<b:=by
 unfold someIn;rw[List.any_eq_true];constructor
 ·rintro⟨j,hj,h⟩
  simp only[Bool.and_eq_true,decide_eq_true_eq]at h;obtain⟨k,x,h1,h2,h3⟩:=(entd_iff p j).1 h.2;have:=List.mem_range.1 hj;exact⟨k,x,h1,h2,by omega,by omega⟩
 ·rintro⟨k,x,h1,h2,h3,h4⟩
  refine⟨_,List.mem_range.2 h4, ?_⟩;simp only[Bool.and_eq_true,decide_eq_true_eq];exact⟨h3,(entd_iff p _).2 ⟨k,x,h1,h2,rfl⟩⟩
end Go.Proofs.YtpibampaobncaaaGreatDoor.B
namespace Go.Proofs.YtpibampaobncaaaGreatDoor.B
def fixI(i L L' k:Nat)(x:Ins):Ins:=if x.skips=true∧i+L≤k+1+x.n.toNat then { x with n:=x.n-L+L'}else x
def mp(i L L' j:Nat):Nat:=if j≤i then j else j-L+L'
def mvOp(y:Ins):Prop:=y.op=2∨y.op=9∨y.op=4∨y.op=6∨y.op=7∨y.op=8∨y.op=13
structure Jn(p p':List Ins)(i L L':Nat):Prop where
 le:i+L≤p.length
 one:1≤L'
 less:L'≤L
 len:p'.length+L=p.length+L'
 before:∀(k:Nat) x,k<i→p[k]? =some x→p'[k]? =some (fixI i L L' k x)
 after:∀k:Nat,p'[i+L'+k]? =p[i+L+k]?
 opsM:∀(k:Nat) x,i≤k→k<i+L→p[k]? =some x→mvOp x
 opsC:∀(k:Nat) x,i≤k→k<i+L'→p'[k]? =some x→mvOp x
 out:someIn (entd p) (i+1) (i+L)=false
 nn:∀(k:Nat) x,p[k]? =some x→0≤x.n
theorem fix_op(i L L' k:Nat)(x:Ins):(fixI i L L' k x).op=x.op:=by unfold fixI;split<;>rfl
theorem fix_a(i L L' k:Nat)(x:Ins):(fixI i L L' k x).a=x.a:=by unfold fixI;split<;>rfl
theorem fix_b(i L L' k:Nat)(x:Ins):(fixI i L L' k x).b=x.b:=by unfold fixI;split<;>rfl
theorem fix_imm(i L L' k:Nat)(x:Ins):(fixI i L L' k x).imm=x.imm:=by unfold fixI;split<;>rfl
theorem fix_same{i L L' k:Nat}{x:Ins}(h:x.skips=false):fixI i L L' k x=x:=by unfold fixI;rw[if_neg (by simp[h])]
theorem fix_skips(i L L' k:Nat)(x:Ins):(fixI i L L' k x).skips=x.skips:=by unfold Ins.skips;rw[fix_op]
theorem fix_next(i L L' k:Nat)(x:Ins):(fixI i L L' k x).next=x.next:=by unfold Ins.next;rw[fix_op]
theorem fix_reads(i L L' k:Nat)(x:Ins)(r:Nat):(fixI i L L' k x).reads r=x.reads r:=by unfold Ins.reads;rw[fix_op,fix_a,fix_b]
theorem fix_writes(i L L' k:Nat)(x:Ins)(r:Nat):(fixI i L L' k x).writes r=x.writes r:=by unfold Ins.writes Ins.isW;rw[fix_op,fix_a]
theorem mp_le{i L L' j:Nat}(h:j≤i):mp i L L' j=j:=by unfold mp;rw[if_pos h]
theorem mp_ge{i L L' k:Nat}(h:1≤L):mp i L L' (i+L+k)=i+L'+k:=by unfold mp;rw[if_neg (by omega)];omega
namespace Jn
variable {p p':List Ins} {i L L':Nat}
theorem pos(J:Jn p p' i L L'):1≤L:=by have:=J.one;have:=J.less;omega
theorem ge(J:Jn p p' i L L'){j:Nat}(h:i+L≤j):mp i L L' j=j-L+L':=by
 have:=J.pos;unfold mp;rw[if_neg (by omega)]
theorem inj(J:Jn p p' i L L'){a b:Nat}(ha:a≤i∨i+L≤a)(hb:b≤i∨i+L≤b)(h:mp i L L' a=mp i L L' b):a=b:=by
 have:=J.one;have:=J.pos;unfold mp at h
 split at h<;>split at h<;>omega
theorem lt_iff(J:Jn p p' i L L'){a b:Nat}(ha:a≤i∨i+L≤a)(hb:b≤i∨i+L≤b):mp i L L' a<mp i L L' b↔a<b:=by
 have:=J.one;have:=J.pos;unfold mp
 split<;>split<;>omega
theorem get(J:Jn p p' i L L'){k:Nat}{x:Ins}(hx:p[k]? =some x)(hk:k<i∨i+L≤k):p'[mp i L L' k]? =some (if k<i then fixI i L L' k x else x):=by
 by_cases h:k<i
 ·rw[mp_le (by omega),if_pos h];exact J.before k x h hx
 ·have hk':i+L≤k:=by omega
  obtain⟨d,rfl⟩:∃d,k=i+L+d:=⟨k-(i+L),by omega⟩;rw[mp_ge J.pos,if_neg h,J.after];exact hx
theorem got(J:Jn p p' i L L'){k':Nat}{y:Ins}(hy:p'[k']? =some y):(∃k x,(k<i∨i+L≤k)∧mp i L L' k=k'∧p[k]? =some x∧y=if k<i then fixI i L L' k x else x)∨(i≤k'∧k'<i+L'∧mvOp y):=by
 have hlt:=(List.getElem?_eq_some_iff.1 hy).1;have hlen:=J.len;have hle:=J.le
 by_cases h:k'<i
 ·have hx:p[k']? =some p[k']:=List.getElem?_eq_getElem (by omega)
  have:=J.before k' _ h hx;rw[hy]at this;exact .inl ⟨k',_,.inl h,mp_le (by omega),hx,by rw[if_pos h];exact Option.some.inj this⟩
 ·by_cases h2:k'<i+L'
  ·exact .inr ⟨by omega,h2,J.opsC k' y (by omega) h2 hy⟩
  ·obtain⟨d,rfl⟩:∃d,k'=i+L'+d:=⟨k'-(i+L'),by omega⟩
   rw[J.after]at hy;exact .inl ⟨i+L+d,y,.inr (by omega),mp_ge J.pos,hy,by rw[if_neg (by omega)]⟩
theorem goal(J:Jn p p' i L L'){k:Nat}{x:Ins}(hx:p[k]? =some x)(hs:x.skips=true):k+1+x.n.toNat≤i∨i+L≤k+1+x.n.toNat:=by
 have:=J.out;rw[Bool.eq_false_iff]at this;apply Classical.byContradiction;intro hn;exact this ((inside_iff p _ _).2 ⟨k,x,hx,hs,by omega,by omega⟩)
theorem skip_out(J:Jn p p' i L L'){k:Nat}{x:Ins}(hx:p[k]? =some x)(hs:x.skips=true):k<i∨i+L≤k:=by
 apply Classical.byContradiction;intro hn;have:=J.opsM k x (by omega) (by omega) hx;rw[(mv_next this).2]at hs;cases hs
theorem goes_to(J:Jn p p' i L L'){k:Nat}{x:Ins}(hx:p[k]? =some x)(hs:x.skips=true):
    mp i L L' k+1+(if k<i then fixI i L L' k x else x).n.toNat=mp i L L' (k+1+x.n.toNat):=by
 have hg:=J.goal hx hs;have hk:=J.skip_out hx hs;have hn:=J.nn k x hx;have:=J.pos;have:=J.less
 by_cases h:k<i
 ·rw[if_pos h,mp_le (by omega)]
  unfold fixI
  by_cases h2:i+L≤k+1+x.n.toNat
  ·rw[if_pos ⟨hs,h2⟩,J.ge h2];simp only;omega
  ·rw[if_neg (by simp[h2]),mp_le (by omega)]
 ·rw[if_neg h,J.ge (by omega),J.ge (by omega)];omega
theorem entd_mp(J:Jn p p' i L L'){j:Nat}(hj:j≤i∨i+L≤j):entd p' (mp i L L' j)=entd p j:=by
 rw[Bool.eq_iff_iff,entd_iff,entd_iff];constructor
 ·rintro⟨k',y,hy,hs,hg⟩
  rcases J.got hy with⟨k,x,hk,rfl,hx,rfl⟩ | ⟨_,_,ho⟩
  ·have hs':x.skips=true:=by split at hs;rwa[fix_skips]at hs;exact hs
   rw[J.goes_to hx hs']at hg;exact⟨k,x,hx,hs',J.inj (J.goal hx hs') hj hg⟩
  ·rw[(mv_next ho).2]at hs;cases hs
 ·rintro⟨k,x,hx,hs,rfl⟩
  exact⟨_,_,J.get hx (J.skip_out hx hs),by split;rwa[fix_skips];exact hs,J.goes_to hx hs⟩
theorem out'(J:Jn p p' i L L'):someIn (entd p') (i+1) (i+L')=false:=by
 rw[Bool.eq_false_iff];intro h;obtain⟨k',y,hy,hs,h1,h2⟩:=(inside_iff p' _ _).1 h;rcases J.got hy with⟨k,x,hk,rfl,hx,rfl⟩ | ⟨_,_,ho⟩
 ·have hs':x.skips=true:=by split at hs;rwa[fix_skips]at hs;exact hs
  have hg:=J.goes_to hx hs';rw[hg]at h1 h2;have:=J.pos;rcases J.goal hx hs' with h3 | h3
  ·rw[mp_le h3]at h1;omega
  ·rw[J.ge h3]at h2;omega
 ·rw[(mv_next ho).2]at hs;cases hs
theorem inside_mp(J:Jn p p' i L L'){a b:Nat}(h:b≤i+1∨i+L≤a)(hab:a≤b):someIn (entd p') (mp i L L' a) (mp i L L' a+(b-a))=someIn (entd p) a b:=by
 have hp:=J.pos
 have hm:∀j,a≤j→j<b→mp i L L' j=mp i L L' a+(j-a):=by
  intro j h1 h2;rcases h with h | h
  ·rw[mp_le (by omega),mp_le (by omega)];omega
  ·rw[J.ge (by omega),J.ge (by omega)];omega
 have hv:∀j,a≤j→j<b→j≤i∨i+L≤j:=by intro j h1 h2;omega
 rw[Bool.eq_iff_iff];unfold someIn;rw[List.any_eq_true,List.any_eq_true];constructor
 ·rintro⟨j',hj,h'⟩
  simp only[Bool.and_eq_true,decide_eq_true_eq,List.mem_range]at h' hj;refine⟨a+(j'-mp i L L' a),List.mem_range.2 (by omega), ?_⟩;simp only[Bool.and_eq_true,decide_eq_true_eq];refine⟨by omega, ?_⟩;rw[←J.entd_mp (hv _ (by omega) (by omega)),hm _ (by omega) (by omega)];rw[show mp i L L' a+(a+(j'-mp i L L' a)-a)=j' by omega];exact h'.2
 ·rintro⟨j,hj,h'⟩
  simp only[Bool.and_eq_true,decide_eq_true_eq,List.mem_range]at h' hj;refine⟨mp i L L' a+(j-a),List.mem_range.2 (by omega), ?_⟩;simp only[Bool.and_eq_true,decide_eq_true_eq];refine⟨by omega, ?_⟩;rw[←hm _ h'.1 hj,J.entd_mp (hv _ h'.1 hj)];exact h'.2
theorem drop_after(J:Jn p p' i L L')(d:Nat):p'.drop (i+L'+d)=p.drop (i+L+d):=by
 apply List.ext_getElem?;intro k;rw[List.getElem?_drop,List.getElem?_drop,Nat.add_assoc,J.after];congr 1;omega
theorem drop_mp(J:Jn p p' i L L'){j:Nat}(h:i+L≤j):p'.drop (mp i L L' j)=p.drop j:=by
 obtain⟨d,rfl⟩:∃d,j=i+L+d:=⟨j-(i+L),by omega⟩;rw[mp_ge J.pos,J.drop_after]
theorem readMv_ge(J:Jn p p' i L L'){j:Nat}(h:i+L≤j):readMv (p'.drop (mp i L L' j))=readMv (p.drop j):=by rw[J.drop_mp h]
theorem readMv_lt(J:Jn p p' i L L'){j:Nat}(hh:∀x,p[i]? =some x→x.op=2∨x.op=9)(hh':∀x,p'[i]? =some x→x.op=2∨x.op=9)(h:j<i):
    readMv (p'.drop j)=readMv ((p.drop j).take (i-j))∧readMv (p.drop j)=readMv ((p.drop j).take (i-j)):=by
 have hle:=J.le;have hlen:=J.len;have hp:=J.pos;have h1:=J.one;have h2:=J.less
 have cut:∀(q:List Ins),i<q.length→(∀x,q[i]? =some x→x.op=2∨x.op=9)→readMv (q.drop j)=readMv ((q.drop j).take (i-j)):=by
  intro q hq hqo;have hx:q[i]? =some q[i]:=List.getElem?_eq_getElem hq
  have e:q.drop j=(q.drop j).take (i-j)++q[i]::q.drop (i+1):=by
   conv=>lhs;rw[←List.take_append_drop (i-j) (q.drop j)]
   congr 1;rw[List.drop_drop,show j+(i-j)=i by omega,List.drop_eq_getElem_cons hq]
  conv=>lhs;rw[e]
  refine readMv_stop (hqo _ hx) ?_;intro hn;have:=congrArg List.length hn;simp at this;omega
 have c1:=cut p' (by omega) hh';have c2:=cut p (by omega) hh;refine⟨?_,c2⟩;rw[c1];refine readMv_congr (by simp;omega) ?_;intro k y x hy hx;rw[List.getElem?_take]at hy hx;split at hy
 ·rename_i hk
  rw[if_pos hk]at hx;rw[List.getElem?_drop]at hy hx;have:=J.before (j+k) x (by omega) hx;rw[hy]at this;rw[Option.some.inj this]
  by_cases hs:x.skips=true
  ·exact .inr ⟨by rw[fix_skips];exact hs,hs⟩
  ·exact .inl (fix_same (by simpa using hs))
 ·cases hy
theorem nd_ge(J:Jn p p' i L L'){j:Nat}(h:i+L≤j)(r:Nat):ndL p' (mp i L L' j) r=ndL p j r:=by
 have h1:=ndL_drop p' (mp i L L' j) 0 r;have h2:=ndL_drop p j 0 r;rw[Nat.add_zero]at h1 h2;rw[h1,h2,J.drop_mp h]
theorem nd_mp(J:Jn p p' i L L')(hi:∀r,ndL p' i r=ndL p i r):∀j,(j≤i∨i+L≤j)→∀r,ndL p' (mp i L L' j) r=ndL p j r:=by
 refine pc_ind (p:=p) (P:=fun j=>(j≤i∨i+L≤j)→∀r,ndL p' (mp i L L' j) r=ndL p j r) ?_ ?_
 ·intro j hj _ r
  have:=J.le;have:=J.pos;exact J.nd_ge (by omega) r
 ·intro j x hx ih hv r
  by_cases h:i+L≤j
  ·exact J.nd_ge h r
  ·by_cases hj:j=i
   ·subst hj;rw[mp_le (lR' _)];exact hi r
   ·have hlt:j<i:=by omega
    have hy:=J.get hx (.inl hlt);rw[if_pos hlt]at hy;have e0:mp i L L' j=j:=mp_le (by omega);rw[nd_eq hy,nd_eq hx,fix_reads,fix_writes]
    have hb:behind (fixI i L L' j x) (mp i L L' j) (ndL p') r=behind x j (ndL p) r:=by
     unfold behind;rw[fix_next,fix_skips,e0]
     have a1:ndL p' (j+1) r=ndL p (j+1) r:=by
      have:=ih (j+1) (by omega) (.inl (by omega)) r;rwa[mp_le (by omega)]at this
     rw[a1]
     cases hs:x.skips with
     | false=>simp
     | true=>
      have hg:=J.goes_to hx hs;rw[if_pos hlt,e0]at hg;rw[hg,ih _ (by omega) (J.goal hx hs) r]
    rw[hb]
end Jn
end Go.Proofs.YtpibampaobncaaaGreatDoor.B
namespace Go.Proofs.YtpibampaobncaaaGreatDoor.B
def Mv.sh(m:Mv):Int:=if m.inn=true then m.way-8*(m.b:Int)else m.way+8*(m.b:Int)
structure Mv.Ok(m:Mv):Prop where
 t0:0≤m.t
 t15:m.t≤15
 v0:0≤m.v
 v15:m.v≤15
 ne:m.t≠m.v
 be:m.b<m.e
 e8:m.e≤8
 bits:m.bits<2^(8*(m.e-m.b))
 sh0: -63≤m.sh
 sh1:m.sh≤63
def Mv.mid(m:Mv):List Ins:=if 0<m.sh then [⟨6,m.t,0,m.sh,0⟩]else if m.sh<0 then [⟨7,m.t,0, -m.sh,0⟩]else []
def Mv.code(m:Mv):List Ins:=
 if m.inn=true then⟨2,m.t,m.v,0,0⟩::(m.mid++[⟨13,m.t,m.b,(m.e:Int)-(m.b:Int),m.bits⟩])
 else⟨9,m.t,m.b,(m.e:Int)-(m.b:Int),0⟩::⟨8,m.t,0,0,m.bits⟩::(m.mid++[⟨4,m.v,m.t,0,0⟩])
def sameWay(m o:Mv):Bool:=decide (m.inn=o.inn∧m.t=o.t∧m.v=o.v∧m.way=o.way)
def joinM(m o:Mv):Mv:=
 { m with b:=min m.b o.b,e:=max m.e o.e,bits:=(m.bits<<<(8*(m.b-min m.b o.b)))|||(o.bits<<<(8*(o.b-min m.b o.b)))}
theorem sameWay_iff{m o:Mv}:sameWay m o=true↔m.inn=o.inn∧m.t=o.t∧m.v=o.v∧m.way=o.way:=by unfold sameWay;simp
theorem mid_sh(m:Mv):Sh m.t m.sh m.mid:=by
 unfold Mv.mid
 by_cases h:0<m.sh
 ·rw[if_pos h]
  exact Sh.up ⟨6,m.t,0,m.sh,0⟩ rfl rfl
 ·rw[if_neg h]
  by_cases h2:m.sh<0
  ·rw[if_pos h2]
   have:=Sh.down (t:=m.t) ⟨7,m.t,0, -m.sh,0⟩ rfl rfl;simp only[Int.neg_neg]at this;exact this
  ·rw[if_neg h2]
   have e:m.sh=0:=by omega
   rw[e];exact .none
theorem lowBits_lt{v n:Nat}(h:v<2^(8*n)):lowBits v n=v:=Nat.mod_eq_of_lt h
theorem code_isMv{m:Mv}(h:m.Ok):IsMv { m with size:=m.code.length} m.code:=by
 have hs:=mid_sh m;have hbe:=h.be;have hbits:=h.bits
 have e1:((m.b:Int)+((m.e:Int)-(m.b:Int))).toNat=m.e:=by omega
 have e2:((m.e:Int)-(m.b:Int)).toNat=m.e-m.b:=by omega
 have e3:(m.b:Int).toNat=m.b:=by omega
 have e4:(m.bits:Int).toNat=m.bits:=by omega
 cases hi:m.inn with
 | true=>
  have hc:m.code=⟨2,m.t,m.v,0,0⟩::(m.mid++[⟨13,m.t,m.b,(m.e:Int)-(m.b:Int),m.bits⟩]):=by unfold Mv.code;rw[if_pos hi]
  have:=IsMv.inn (x:=⟨2,m.t,m.v,0,0⟩) (z:=⟨13,m.t,m.b,(m.e:Int)-(m.b:Int),m.bits⟩) rfl h.ne hs rfl rfl;simp only[e1,e2,e3,e4,lowBits_lt hbits]at this
  have ew:8*(m.b:Int)+m.sh=m.way:=by unfold Mv.sh;rw[if_pos hi];omega
  rw[ew]at this;rw[hc]
  have el:(⟨2,m.t,m.v,0,0⟩::(m.mid++[(⟨13,m.t,m.b,(m.e:Int)-(m.b:Int),m.bits⟩:Ins)])).length=m.mid.length+2:=by simp
  rw[el];exact this
 | false=>
  have hc:m.code=⟨9,m.t,m.b,(m.e:Int)-(m.b:Int),0⟩::⟨8,m.t,0,0,m.bits⟩::(m.mid++[⟨4,m.v,m.t,0,0⟩]):=by unfold Mv.code;rw[if_neg (by simp[hi])]
  have:=IsMv.out (x:=⟨9,m.t,m.b,(m.e:Int)-(m.b:Int),0⟩) (y:=⟨8,m.t,0,0,m.bits⟩) (z:=⟨4,m.v,m.t,0,0⟩) rfl rfl rfl hs rfl rfl h.ne.symm;simp only[e1,e2,e3,e4,lowBits_lt hbits]at this
  have ew:m.sh-8*(m.b:Int)=m.way:=by unfold Mv.sh;rw[if_neg (by simp[hi])];omega
  rw[ew]at this;rw[hc]
  have el:(⟨9,m.t,m.b,(m.e:Int)-(m.b:Int),0⟩::⟨8,m.t,0,0,m.bits⟩::(m.mid++[(⟨4,m.v,m.t,0,0⟩:Ins)])).length=m.mid.length+3:=by simp
  rw[el];exact this
theorem sh_bounds{t s:Int}{sh:List Ins}(h:Sh t s sh)(hr:∀x∈sh,x.right=true): -63≤s∧s≤63:=by
 cases h with
 | none=>omega
 | up x h1 _=>
  have:=hr x (by simp);unfold Ins.right hiN loN at this;simp[h1]at this;omega
 | down x h1 _=>
  have:=hr x (by simp);unfold Ins.right hiN loN at this;simp[h1]at this;omega
theorem lowBits_range(v n:Nat):lowBits v n<2^(8*n):=Nat.mod_lt _ (Nat.two_pow_pos _)
theorem IsMv.ok{m:Mv}{c:List Ins}(h:IsMv m c)(hr:∀x∈c,x.right=true):m.Ok:=by
 cases h with
 | @inn x z sh s h1 h2 h3 h4 h5=>
  have rx:=right_bounds (hr x (by simp));have rz':=hr z (by simp);have rz:=right_bounds rz';have hs:=sh_bounds h3 (fun y hy=>hr y (by simp[hy]))
  have bx:x.b≤15:=by
   have:=hr x (by simp);unfold Ins.right hiB at this;simp[h1]at this;omega
  have bz:1≤z.n∧z.b+z.n≤8:=by
   unfold Ins.right hiN loN at rz';simp[h4]at rz';omega
  refine⟨rx.2.1.1,rx.2.1.2,rx.2.2.1.1,bx,h2, ?_, ?_, ?_, ?_, ?_⟩
  ·show z.b.toNat<(z.b+z.n).toNat;omega
  ·show(z.b+z.n).toNat≤8;omega
  ·show lowBits z.imm.toNat z.n.toNat<2^(8*((z.b+z.n).toNat-z.b.toNat))
   rw[show(z.b+z.n).toNat-z.b.toNat=z.n.toNat by omega];exact lowBits_range _ _
  ·unfold Mv.sh;simp only[if_true];omega
  ·unfold Mv.sh;simp only[if_true];omega
 | @out x y z sh s h1 h2 h3 h4 h5 h6 h7=>
  have rx':=hr x (by simp);have rx:=right_bounds rx';have rz:=right_bounds (hr z (by simp));have hs:=sh_bounds h4 (fun u hu=>hr u (by simp[hu]))
  have bx:1≤x.n∧x.b+x.n≤8:=by
   unfold Ins.right hiN loN at rx';simp[h1]at rx';omega
  refine⟨rx.2.1.1,rx.2.1.2,rz.2.1.1,rz.2.1.2,h7.symm, ?_, ?_, ?_, ?_, ?_⟩
  ·show x.b.toNat<(x.b+x.n).toNat;omega
  ·show(x.b+x.n).toNat≤8;omega
  ·show lowBits y.imm.toNat x.n.toNat<2^(8*((x.b+x.n).toNat-x.b.toNat))
   rw[show(x.b+x.n).toNat-x.b.toNat=x.n.toNat by omega];exact lowBits_range _ _
  ·unfold Mv.sh;simp;omega
  ·unfold Mv.sh;simp;omega
theorem shiftLeft_lt{v k n:Nat}(h:v<2^n):v<<<k<2^(n+k):=by
 rw[Nat.shiftLeft_eq,Nat.pow_add];exact Nat.mul_lt_mul_of_pos_right h (Nat.two_pow_pos k)
theorem joinM_ok{m o:Mv}(hm:m.Ok)(ho:o.Ok)(hw:sameWay m o=true):(joinM m o).Ok:=by
 obtain⟨w1,w2,w3,w4⟩:=sameWay_iff.1 hw;have b1:=hm.be;have b2:=ho.be;have e1:=hm.e8;have e2:=ho.e8;have s1:=hm.sh0;have s2:=hm.sh1;have s3:=ho.sh0;have s4:=ho.sh1
 have hmin:min m.b o.b=m.b∨min m.b o.b=o.b:=by omega
 have hsh:(joinM m o).sh=m.sh∨(joinM m o).sh=o.sh:=by
  unfold Mv.sh joinM;simp only;rcases hmin with h | h
  ·left;rw[h]
  ·right;rw[h,w1,w4]
 refine⟨hm.t0,hm.t15,hm.v0,hm.v15,hm.ne, ?_, ?_, ?_,by omega,by omega⟩
 ·show min m.b o.b<max m.e o.e;omega
 ·show max m.e o.e≤8;omega
 ·show(m.bits<<<(8*(m.b-min m.b o.b)))|||(o.bits<<<(8*(o.b-min m.b o.b)))<2^(8*(max m.e o.e-min m.b o.b))
  refine Nat.or_lt_two_pow ?_ ?_
  ·exact Nat.lt_of_lt_of_le (shiftLeft_lt hm.bits) (Nat.pow_le_pow_right (by omega) (by omega))
  ·exact Nat.lt_of_lt_of_le (shiftLeft_lt ho.bits) (Nat.pow_le_pow_right (by omega) (by omega))
theorem IsMv.size_out{m:Mv}{c:List Ins}(h:IsMv m c)(hi:m.inn=false):3≤m.size:=by
 cases h with
 | inn=>cases hi
 | out=>simp
theorem mid_len(m:Mv):m.mid.length≤1:=sh_len (mid_sh m)
theorem code_len{m:Mv}:2≤m.code.length∧m.code.length≤if m.inn=true then 3 else 4:=by
 have:=mid_len m;unfold Mv.code
 cases m.inn<;>simp<;>omega
theorem nd_mv{m:Mv}{c:List Ins}(h:IsMv m c)(hr:∀x∈c,x.right=true)(w:List Ins)(r:Nat):
    ndL (c++w) 0 r=((m.v==(r:Int))||(!(m.t==(r:Int))&&ndL w 0 r)):=by
 have step:∀(x:Ins) (l:List Ins),mvOp x→ndL (x::l) 0 r=(x.reads r||(ndL l 0 r&& !x.writes r)):=by
  intro x l ho;obtain⟨h1,h2⟩:=mv_next ho
  show(x.reads r||(((x.next&&ndL l 0 r)||(x.skips&&ndL l x.n.toNat r))&& !x.writes r))=_
  rw[h1,h2];simp
 have mid:∀ {t s:Int} {sh:List Ins},Sh t s sh→∀(l:List Ins),(∀b:Bool,ndL l 0 r=((t==(r:Int))||b)→ndL (sh++l) 0 r=((t==(r:Int))||b)):=by
  intro t s sh hsh l b hl
  cases hsh with
  | none=>exact hl
  | up x h1 h2=>
   rw[List.singleton_append,step x l (by unfold mvOp;omega),hl]
   have e1:x.reads r=(t==(r:Int)):=by unfold Ins.reads;simp[h1,h2]
   rw[e1]
   have e2:x.writes r=(t==(r:Int)):=by unfold Ins.writes Ins.isW;simp[h1,h2]
   rw[e2]
   cases(t==(r:Int))<;>simp
  | down x h1 h2=>
   rw[List.singleton_append,step x l (by unfold mvOp;omega),hl]
   have e1:x.reads r=(t==(r:Int)):=by unfold Ins.reads;simp[h1,h2]
   rw[e1]
   have e2:x.writes r=(t==(r:Int)):=by unfold Ins.writes Ins.isW;simp[h1,h2]
   rw[e2]
   cases(t==(r:Int))<;>simp
 cases h with
 | @inn x z sh s h1 h2 h3 h4 h5=>
  have hz:ndL (z::w) 0 r=((x.a==(r:Int))||ndL w 0 r):=by
   rw[step z w (by unfold mvOp;omega)]
   have e1:z.reads r=(x.a==(r:Int)):=by unfold Ins.reads;simp[h4,h5]
   have e2:z.writes r=false:=by unfold Ins.writes Ins.isW;simp[h4]
   rw[e1,e2];simp
  have hm:=mid h3 (z::w) _ hz;rw[List.cons_append,List.append_assoc,List.singleton_append,step x _ (by unfold mvOp;omega),hm]
  have e1:x.reads r=(x.b==(r:Int)):=by unfold Ins.reads;simp[h1]
  have e2:x.writes r=(x.a==(r:Int)):=by unfold Ins.writes Ins.isW;simp[h1]
  rw[e1,e2];simp only
  cases(x.a==(r:Int))<;>simp
 | @out x y z sh s h1 h2 h3 h4 h5 h6 h7=>
  have hz:ndL (z::w) 0 r=((x.a==(r:Int))||((z.a==(r:Int))||ndL w 0 r)):=by
   rw[step z w (by unfold mvOp;omega)]
   have e1:z.reads r=((z.a==(r:Int))||(x.a==(r:Int))):=by unfold Ins.reads;simp[h5,h6]
   have e2:z.writes r=(z.a==(r:Int)):=by unfold Ins.writes Ins.isW;simp[h5]
   rw[e1,e2]
   cases(x.a==(r:Int))<;>cases(z.a==(r:Int))<;>simp
  have hm:=mid h4 (z::w) _ hz;rw[List.cons_append,List.cons_append,List.append_assoc,List.singleton_append,step x _ (by unfold mvOp;omega),step y _ (by unfold mvOp;omega),hm]
  have e1:x.reads r=false:=by unfold Ins.reads;simp[h1]
  have e2:x.writes r=(x.a==(r:Int)):=by unfold Ins.writes Ins.isW;simp[h1]
  have e3:y.reads r=(x.a==(r:Int)):=by unfold Ins.reads;simp[h2,h3]
  have e4:y.writes r=(x.a==(r:Int)):=by unfold Ins.writes Ins.isW;simp[h2,h3]
  rw[e1,e2,e3,e4];simp only
  cases hx:(x.a==(r:Int))with
  | false=>simp
  | true=>
   have:(z.a==(r:Int))=false:=by simp at hx⊢;omega
   rw[this];simp
def nextMv(p:List Ins)(m:Mv)(k:Nat):Option Mv:=match readMv (p.drop k)with
 | some o=>if sameWay m o=true∧someIn (entd p) k (k+o.size)=false∧ndL p (k+o.size) m.t.toNat=false then some o else none
 | none=>none
def pairAt(p:List Ins)(i:Nat):Option (Mv×Mv):=match readMv (p.drop i)with
 | some a=>if someIn (entd p) (i+1) (i+a.size)=true then none else(nextMv p a (i+a.size)).map fun b=>(a,b)
 | none=>none
def put(p:List Ins)(i L:Nat)(C:List Ins):List Ins:=((p.take i).mapIdx fun k x=>fixI i L C.length k x)++C++p.drop (i+L)
def once(p:List Ins):Option (List Ins):=match(List.range p.length).find? fun i=>(pairAt p i).isSome with
 | some i=>match pairAt p i with
  | some (a,b)=>some (put p i (a.size+b.size) (joinM a b).code)
  | none=>none
 | none=>none
def fuseN:Nat→List Ins→List Ins
 | 0,p=>p
 | f+1,p=>match once p with
  | some q=>fuseN f q
  | none=>p
def fuse(p:List Ins):List Ins:=fuseN p.length p
theorem nextMv_some{p:List Ins}{m o:Mv}{k:Nat}(h:nextMv p m k=some o):readMv (p.drop k)=some o∧sameWay m o=true∧someIn (entd p) k (k+o.size)=false∧ndL p (k+o.size) m.t.toNat=false:=by
 unfold nextMv at h
 cases hm:readMv (p.drop k)with
 | none=>rw[hm]at h;cases h
 | some o'=>
  rw[hm]at h;simp only at h;split at h
  ·rename_i hc
   obtain rfl:=Option.some.inj h;exact⟨rfl,hc⟩
  ·cases h
theorem nextMv_congr{p:List Ins}{m m':Mv}(h:sameWay m m'=true)(k:Nat):nextMv p m k=nextMv p m' k:=by
 obtain⟨w1,w2,w3,w4⟩:=sameWay_iff.1 h
 have e:∀o,sameWay m o=sameWay m' o:=by intro o;unfold sameWay;rw[w1,w2,w3,w4]
 unfold nextMv;simp only[e,w2]
theorem pairAt_some{p:List Ins}{i:Nat}{a b:Mv}(h:pairAt p i=some (a,b)):readMv (p.drop i)=some a∧someIn (entd p) (i+1) (i+a.size)=false∧nextMv p a (i+a.size)=some b:=by
 unfold pairAt at h
 cases hm:readMv (p.drop i)with
 | none=>rw[hm]at h;cases h
 | some a'=>
  rw[hm]at h;simp only at h;split at h
  ·cases h
  ·rename_i hn
   cases hx:nextMv p a' (i+a'.size)with
   | none=>rw[hx]at h;cases h
   | some b'=>
    rw[hx]at h;simp only[Option.map_some,Option.some.injEq,Prod.mk.injEq]at h;obtain⟨rfl,rfl⟩:=h;exact⟨rfl,by simpa using hn,hx⟩
theorem pairAt_none{p:List Ins}{i:Nat}{a:Mv}(h:pairAt p i=none)(ha:readMv (p.drop i)=some a):someIn (entd p) (i+1) (i+a.size)=true∨nextMv p a (i+a.size)=none:=by
 unfold pairAt at h;rw[ha]at h;simp only at h;split at h
 ·exact .inl (by assumption)
 ·right
  cases hx:nextMv p a (i+a.size)with
  | none=>rfl
  | some b=>rw[hx]at h;simp at h
theorem drop_split{p c r:List Ins}{i:Nat}(h:p.drop i=c++r):p.drop (i+c.length)=r:=by
 rw[←List.drop_drop,h,List.drop_left]
theorem mem_drop{p c r:List Ins}{i:Nat}(h:p.drop i=c++r){x:Ins}(hx:x∈c):x∈p:=List.mem_of_mem_drop (i:=i) (by rw[h];exact List.mem_append_left _ hx)
structure Pair(p:List Ins)(i:Nat)(a b:Mv)(ca cb w:List Ins):Prop where
 shape:p.drop i=ca++(cb++w)
 ma:IsMv a ca
 mb:IsMv b cb
 oka:a.Ok
 okb:b.Ok
 same:sameWay a b=true
 out:someIn (entd p) (i+1) (i+(a.size+b.size))=false
 dead:ndL p (i+(a.size+b.size)) a.t.toNat=false
 lt:i<p.length
theorem someIn_or(st:Nat→Bool){a b c:Nat}(hab:someIn st a b=false)(hbc:someIn st b c=false):someIn st a c=false:=by
 rw[Bool.eq_false_iff]at hab hbc⊢;intro h;unfold someIn at h;rw[List.any_eq_true]at h;obtain⟨j,hj,h⟩:=h;simp only[Bool.and_eq_true,decide_eq_true_eq,List.mem_range]at h hj
 by_cases hb:j<b
 ·exact hab (someIn_of h.1 hb h.2)
 ·exact hbc (someIn_of (by omega) hj h.2)
theorem someIn_sub{st:Nat→Bool}{a b c d:Nat}(h1:a≤b)(h2:c≤d)(h:someIn st a d=false):someIn st b c=false:=by
 rw[Bool.eq_false_iff]at h⊢;intro h';unfold someIn at h';rw[List.any_eq_true]at h';obtain⟨j,hj,h'⟩:=h';simp only[Bool.and_eq_true,decide_eq_true_eq,List.mem_range]at h' hj;exact h (someIn_of (by omega) (by omega) h'.2)
theorem pair_open{p:List Ins}(hp:∀x∈p,x.right=true){i:Nat}{a b:Mv}(h:pairAt p i=some (a,b)):∃ca cb w,Pair p i a b ca cb w:=by
 obtain⟨h1,h2,h3⟩:=pairAt_some h;obtain⟨h4,h5,h6,h7⟩:=nextMv_some h3;obtain⟨ca,r,e1,ma⟩:=readMv_inv h1;have e2:=drop_split e1;rw[ma.length]at e2;obtain⟨cb,w,e3,mb⟩:=readMv_inv h4
 have e4:r=cb++w:=by rw[←e2];exact e3
 refine⟨ca,cb,w,by rw[e1,e4],ma,mb,ma.ok fun x hx=>hp x (mem_drop e1 hx),mb.ok fun x hx=>hp x (mem_drop e3 hx),h5, ?_, ?_, ?_⟩
 ·exact someIn_or _ h2 (by rw[←Nat.add_assoc];exact h6)
 ·rw[←Nat.add_assoc];exact h7
 ·apply Classical.byContradiction
  intro hn;rw[List.drop_eq_nil_of_le (by omega)]at e1;have:=congrArg List.length e1;have h8:=ma.size_ge;have h9:=ma.length;simp at this;omega
theorem put_length{p C:List Ins}{i L:Nat}(h:i+L≤p.length):(put p i L C).length+L=p.length+C.length:=by
 unfold put;simp;omega
theorem put_before{p C:List Ins}{i L k:Nat}{x:Ins}(hk:k<i)(hx:p[k]? =some x):(put p i L C)[k]? =some (fixI i L C.length k x):=by
 have hlt:=(List.getElem?_eq_some_iff.1 hx).1;unfold put;rw[List.append_assoc,List.getElem?_append_left (by simp;omega),List.getElem?_mapIdx,List.getElem?_take,if_pos hk,hx];rfl
theorem put_new{p C:List Ins}{i L k:Nat}(h:i≤p.length)(hk:k<C.length):(put p i L C)[i+k]? =C[k]? :=by
 unfold put;rw[List.append_assoc,List.getElem?_append_right (by simp;omega),List.getElem?_append_left (by simp;omega)];congr 1;simp;omega
theorem put_after{p C:List Ins}{i L k:Nat}(h:i≤p.length):(put p i L C)[i+C.length+k]? =p[i+L+k]? :=by
 unfold put;rw[List.getElem?_append_right (by simp;omega),List.getElem?_drop];congr 1;simp;omega
theorem put_drop{p C:List Ins}{i L:Nat}(h:i≤p.length):(put p i L C).drop i=C++p.drop (i+L):=by
 unfold put;rw[List.append_assoc]
 have e:((p.take i).mapIdx fun k x=>fixI i L C.length k x).length=i:=by simp;omega
 exact List.drop_left' e
namespace Pair
variable {p:List Ins} {i:Nat} {a b:Mv} {ca cb w:List Ins}
theorem lens(P:Pair p i a b ca cb w):i+(a.size+b.size)+w.length=p.length:=by
 have h:=congrArg List.length P.shape;have:=P.lt;simp[P.ma.length,P.mb.length]at h;omega
theorem okj(P:Pair p i a b ca cb w):(joinM a b).Ok:=joinM_ok P.oka P.okb P.same
theorem less(P:Pair p i a b ca cb w):(joinM a b).code.length<a.size+b.size:=by
 have h1:=P.ma.size_ge;have h2:=P.mb.size_ge;have h3:=(code_len (m:=joinM a b)).2;have e:(joinM a b).inn=a.inn:=rfl;rw[e]at h3
 cases hi:a.inn with
 | true=>rw[hi]at h3;simp at h3;omega
 | false=>
  rw[hi]at h3;have h4:=P.ma.size_out hi;have h5:=P.mb.size_out (by rw[←(sameWay_iff.1 P.same).1];exact hi);simp at h3;omega
theorem at_get(P:Pair p i a b ca cb w)(k:Nat):p[i+k]? =(ca++(cb++w))[k]? :=by
 rw[←P.shape,List.getElem?_drop]
theorem jn(P:Pair p i a b ca cb w)(hp:∀x∈p,x.right=true):Jn p (put p i (a.size+b.size) (joinM a b).code) i (a.size+b.size) (joinM a b).code.length:=by
 have hl:=P.lens;have hless:=P.less;have hlt:=P.lt;refine⟨by omega,by have:=(code_len (m:=joinM a b)).1;omega,by omega,put_length (by omega),fun k x hk hx=>put_before hk hx,fun k=>put_after (by omega), ?_, ?_,P.out, ?_⟩
 ·intro k x h1 h2 hx
  obtain⟨d,rfl⟩:∃d,k=i+d:=⟨k-i,by omega⟩;rw[P.at_get]at hx
  by_cases hd:d<ca.length
  ·rw[List.getElem?_append_left hd]at hx
   exact P.ma.ops x (List.mem_of_getElem? hx)
  ·have:=P.ma.length;have:=P.mb.length
   rw[List.getElem?_append_right (by omega),List.getElem?_append_left (by omega)]at hx;exact P.mb.ops x (List.mem_of_getElem? hx)
 ·intro k x h1 h2 hx
  obtain⟨d,rfl⟩:∃d,k=i+d:=⟨k-i,by omega⟩;rw[put_new (by omega) (by omega)]at hx;exact(code_isMv P.okj).ops x (List.mem_of_getElem? hx)
 ·intro k x hx
  have:=right_bounds (hp x (List.mem_of_getElem? hx));omega
theorem code_right(P:Pair p i a b ca cb w):∀x∈(joinM a b).code,x.right=true:=by
 have ok:=P.okj;generalize joinM a b=m at ok;have h1:=ok.t0;have h2:=ok.t15;have h3:=ok.v0;have h4:=ok.v15;have h5:=ok.be;have h6:=ok.e8;have h7:=ok.sh0;have h8:=ok.sh1
 have hb:(m.bits:Int)≤18446744073709551615:=by
  have h9:m.bits<2^64:=Nat.lt_of_lt_of_le ok.bits (Nat.pow_le_pow_right (by omega) (by omega));omega
 have hmid:∀x∈m.mid,x.right=true:=by
  intro x hx;unfold Mv.mid at hx;split at hx
  ·rw[List.mem_singleton.1 hx]
   simp[Ins.right,isOp,hasA,hiB,loN,hiN,hiImm];omega
  ·split at hx
   ·rw[List.mem_singleton.1 hx]
    simp[Ins.right,isOp,hasA,hiB,loN,hiN,hiImm];omega
   ·cases hx
 intro x hx;unfold Mv.code at hx;split at hx
 ·rcases List.mem_cons.1 hx with h | h
  ·rw[h];simp[Ins.right,isOp,hasA,hiB,loN,hiN,hiImm];omega
  ·rcases List.mem_append.1 h with h | h
   ·exact hmid x h
   ·rw[List.mem_singleton.1 h]
    simp[Ins.right,isOp,hasA,hiB,loN,hiN,hiImm];omega
 ·rcases List.mem_cons.1 hx with h | h
  ·rw[h];simp[Ins.right,isOp,hasA,hiB,loN,hiN,hiImm];omega
  ·rcases List.mem_cons.1 h with h | h
   ·rw[h];simp[Ins.right,isOp,hasA,hiB,loN,hiN,hiImm];omega
   ·rcases List.mem_append.1 h with h | h
    ·exact hmid x h
    ·rw[List.mem_singleton.1 h]
     simp[Ins.right,isOp,hasA,hiB,loN,hiN,hiImm];omega
theorem nd_i(P:Pair p i a b ca cb w)(hp:∀x∈p,x.right=true)(r:Nat):ndL (put p i (a.size+b.size) (joinM a b).code) i r=ndL p i r:=by
 have hl:=P.lens;have e1:=ndL_drop (put p i (a.size+b.size) (joinM a b).code) i 0 r;have e2:=ndL_drop p i 0 r;rw[Nat.add_zero]at e1 e2
 have ew:p.drop (i+(a.size+b.size))=w:=by
  have h1:=drop_split P.shape;have h2:=drop_split h1;rw[P.ma.length,P.mb.length]at h2;rw[←h2];congr 1;omega
 rw[e1,e2,put_drop (by omega),P.shape,ew];obtain⟨w1,w2,w3,w4⟩:=sameWay_iff.1 P.same
 rw[nd_mv (code_isMv P.okj) P.code_right,nd_mv P.ma (fun x hx=>hp x (mem_drop P.shape hx)),nd_mv P.mb (fun x hx=>hp x (by
  have h1:=drop_split P.shape
  exact mem_drop h1 hx))]
 rw[←w2,←w3]
 show((a.v==(r:Int))||(!(a.t==(r:Int))&&ndL w 0 r))=_
 cases(a.v==(r:Int))<;>cases(a.t==(r:Int))<;>simp
theorem dead_mid(P:Pair p i a b ca cb w)(hp:∀x∈p,x.right=true):ndL p (i+a.size) a.t.toNat=false:=by
 obtain⟨w1,w2,w3,w4⟩:=sameWay_iff.1 P.same;have e2:=ndL_drop p (i+a.size) 0 a.t.toNat;rw[Nat.add_zero]at e2;have h1:=drop_split P.shape;rw[P.ma.length]at h1;rw[e2,h1,nd_mv P.mb (fun x hx=>hp x (mem_drop h1 hx)),←w2,←w3];have:=P.oka.ne;have:=P.oka.t0;have:=P.oka.v0
 have e3:(a.v==((a.t.toNat:Nat):Int))=false:=by simp;omega
 have e4:(a.t==((a.t.toNat:Nat):Int))=true:=by simp;omega
 rw[e3,e4];rfl
end Pair
end Go.Proofs.YtpibampaobncaaaGreatDoor.B
namespace Go.Proofs.YtpibampaobncaaaGreatDoor.B
inductive Row (p:List Ins) (m:Mv):Nat→Mv→Nat→Mv→Prop where
 | stop {k:Nat} {all:Mv}:nextMv p m k=none→Row p m k all k all
 | more {k k':Nat} {all all' o:Mv}:nextMv p m k=some o→Row p m (k+o.size) (joinM all o) k' all'→Row p m k all k' all'
inductive Seg (p:List Ins) (i:Nat):Nat→List Ins→Bool→Prop where
 | one {x:Ins}:readMv (p.drop i)=none→p[i]? =some x→Seg p i 1 [x] false
 | alone {m:Mv}:readMv (p.drop i)=some m→pairAt p i=none→Seg p i m.size ((p.drop i).take m.size) false
 | row {m all o:Mv} {k:Nat}:readMv (p.drop i)=some m→someIn (entd p) (i+1) (i+m.size)=false→nextMv p m (i+m.size)=some o→
     Row p m (i+m.size+o.size) (joinM m o) k all→Seg p i (k-i) all.code true
def plNew(i n len:Nat)(j:Bool)(pl:Nat→Nat):Nat→Nat:=fun k=>if i≤k∧k<i+n then(if j=true then len else len+(k-i))else pl k
inductive Fz (p:List Ins):Nat→List Ins→(Nat→Nat)→Prop where
 | start {pl:Nat→Nat}:Fz p 0 [] pl
 | step {i n:Nat} {out l:List Ins} {j:Bool} {pl:Nat→Nat}:Fz p i out pl→Seg p i n l j→Fz p (i+n) (out++l) (plNew i n out.length j pl)
theorem Row.mono{p:List Ins}{m all all':Mv}{k k':Nat}(h:Row p m k all k' all'):k≤k':=by
 induction h with
 | stop _=>exact lR' _
 | more _ _ ih=>omega
theorem Row.congr{p:List Ins}{m m' all all':Mv}{k k':Nat}(hw:sameWay m m'=true)(h:Row p m k all k' all'):Row p m' k all k' all':=by
 induction h with
 | stop h=>exact .stop (by rw[←nextMv_congr hw];exact h)
 | more h _ ih=>exact .more (by rw[←nextMv_congr hw];exact h) ih
theorem Row.sized{p:List Ins}{m all all':Mv}{k k':Nat}(s:Nat)(h:Row p m k all k' all'):Row p m k { all with size:=s} k' { all' with size:=s}:=by
 induction h with
 | stop h=>exact .stop h
 | more h _ ih=>exact .more h ih
theorem code_sized(m:Mv)(s:Nat):({ m with size:=s}:Mv).code=m.code:=rfl
theorem code_ops(m:Mv):∀x∈m.code,mvOp x:=by
 have hmid:=sh_ops (mid_sh m);intro x hx;unfold mvOp;unfold Mv.code at hx;split at hx
 ·rcases List.mem_cons.1 hx with h | h
  ·rw[h];simp
  ·rcases List.mem_append.1 h with h | h
   ·have:=(hmid x h).1;omega
   ·rw[List.mem_singleton.1 h];simp
 ·rcases List.mem_cons.1 hx with h | h
  ·rw[h];simp
  ·rcases List.mem_cons.1 h with h | h
   ·rw[h];simp
   ·rcases List.mem_append.1 h with h | h
    ·have:=(hmid x h).1;omega
    ·rw[List.mem_singleton.1 h];simp
def Er(x x':Ins):Prop:=x=x'∨(x.skips=true∧x'.skips=true∧x.op=x'.op∧x.a=x'.a∧x.b=x'.b∧x.imm=x'.imm)
structure ErL(o o':List Ins):Prop where
 len:o.length=o'.length
 at_:∀(y:Nat) x x',o[y]? =some x→o'[y]? =some x'→Er x x'
theorem Er.refl(x:Ins):Er x x:=.inl rfl
theorem ErL.refl(o:List Ins):ErL o o:=⟨rfl,fun y x x' h h'=>by rw[h]at h';exact .inl (Option.some.inj h')⟩
theorem ErL.append{o o' l l':List Ins}(h:ErL o o')(h':ErL l l'):ErL (o++l) (o'++l'):=by
 refine⟨by simp[h.len,h'.len], ?_⟩;intro y x x' hx hx'
 by_cases hy:y<o.length
 ·rw[List.getElem?_append_left hy]at hx
  rw[List.getElem?_append_left (by rw[←h.len];exact hy)]at hx';exact h.at_ y x x' hx hx'
 ·rw[List.getElem?_append_right (by omega)]at hx
  rw[List.getElem?_append_right (by rw[←h.len];omega),←h.len]at hx';exact h'.at_ _ x x' hx hx'
theorem fix_er(i L L' k:Nat)(x:Ins):Er x (fixI i L L' k x):=by
 by_cases h:x.skips=true
 ·exact .inr ⟨h,by rw[fix_skips];exact h,(fix_op ..).symm,(fix_a ..).symm,(fix_b ..).symm,(fix_imm ..).symm⟩
 ·exact .inl (fix_same (by simpa using h)).symm
def setN(o:List Ins)(q:Nat×Int):List Ins:=o.modify q.1 fun x=> { x with n:=q.2}
def fixL(Ls:List (Nat×Int))(out:List Ins):List Ins:=Ls.foldl setN out
def fixAt(p:List Ins)(pl:Nat→Nat)(k:Nat):Option (Nat×Int):=match p[k]? with
 | some x=>if x.skips=true then some (pl k,(pl (k+1+x.n.toNat):Int)-(pl k:Int)-1)else none
 | none=>none
def fixes(p:List Ins)(pl:Nat→Nat):List (Nat×Int):=(List.range p.length).filterMap (fixAt p pl)
def plEnd(len outlen:Nat)(pl:Nat→Nat):Nat→Nat:=fun k=>if k=len then outlen else pl k
theorem setN_get(o:List Ins)(q:Nat×Int)(y:Nat):(setN o q)[y]? =if q.1=y then o[y]?.map (fun x=> { x with n:=q.2})else o[y]? :=by
 unfold setN;rw[List.getElem?_modify];split
 ·rfl
 ·simp
theorem setN_length(o:List Ins)(q:Nat×Int):(setN o q).length=o.length:=by unfold setN;simp
theorem fixL_er:∀(Ls:List (Nat×Int)) {o o':List Ins},ErL o o'→(∀(y:Nat) x,o[y]? =some x→x.skips=true→(∃q∈Ls,q.1=y)∨o[y]? =o'[y]?)→fixL Ls o=fixL Ls o'
 | [],o,o',h,hc=>by
  show o=o'
  apply List.ext_getElem?;intro y
  cases hx:o[y]? with
  | none=>
   rw[List.getElem?_eq_none_iff,h.len]at hx;rw[List.getElem?_eq_none hx]
  | some x=>
   have hlt:=(List.getElem?_eq_some_iff.1 hx).1;have hx':o'[y]? =some (o'[y]'(by rw[←h.len];exact hlt)):=List.getElem?_eq_getElem _;rcases h.at_ y x _ hx hx' with e | e
   ·rw[hx',e]
   ·rcases hc y x hx e.1 with⟨q,hq,_⟩ | h'
    ·cases hq
    ·rw[←hx,h']
 | q::Ls,o,o',h,hc=>by
  show fixL Ls (setN o q)=fixL Ls (setN o' q)
  refine fixL_er Ls ⟨by rw[setN_length,setN_length,h.len], ?_⟩ ?_
  ·intro y x x' hx hx'
   rw[setN_get]at hx hx'
   by_cases hy:q.1=y
   ·rw[if_pos hy]at hx hx'
    cases hu:o[y]? with
    | none=>rw[hu]at hx;cases hx
    | some u=>
     cases hu':o'[y]? with
     | none=>rw[hu']at hx';cases hx'
     | some u'=>
      rw[hu]at hx;rw[hu']at hx';obtain rfl:=Option.some.inj hx;obtain rfl:=Option.some.inj hx';rcases h.at_ y u u' hu hu' with e | ⟨_,_,e1,e2,e3,e4⟩
      ·rw[e];exact .refl _
      ·left;cases u;cases u';simp only at e1 e2 e3 e4;rw[e1,e2,e3,e4]
   ·rw[if_neg hy]at hx hx'
    exact h.at_ y x x' hx hx'
  ·intro y x hx hs
   rw[setN_get]at hx⊢;rw[setN_get]
   by_cases hy:q.1=y
   ·right
    rw[if_pos hy,if_pos hy]
    cases hu:o[y]? with
    | none=>
     rw[List.getElem?_eq_none_iff,h.len]at hu;rw[List.getElem?_eq_none hu]
    | some u=>
     have hlt:=(List.getElem?_eq_some_iff.1 hu).1;have hu':o'[y]? =some (o'[y]'(by rw[←h.len];exact hlt)):=List.getElem?_eq_getElem _;rw[hu'];generalize o'[y]'(by rw[←h.len];exact hlt)=u' at hu';rcases h.at_ y u u' hu hu' with e | ⟨_,_,e1,e2,e3,e4⟩
     ·rw[e]
     ·cases u;cases u';simp only at e1 e2 e3 e4;rw[e1,e2,e3,e4];rfl
   ·rw[if_neg hy]at hx
    rw[if_neg hy,if_neg hy];rcases hc y x hx hs with⟨q',hq',e⟩ | h'
    ·rcases List.mem_cons.1 hq' with e' | e'
     ·rw[e']at e;exact absurd e hy
     ·exact .inl ⟨q',e',e⟩
    ·exact .inr h'
theorem fixL_same:∀(Ls:List (Nat×Int)) (p:List Ins),(∀q∈Ls,∃x,p[q.1]? =some x∧x.n=q.2)→fixL Ls p=p
 | [],_,_=>rfl
 | q::Ls,p,h=>by
  obtain⟨x,hx,hn⟩:=h q (List.mem_cons_self ..)
  have e:setN p q=p:=by
   apply List.ext_getElem?;intro y;rw[setN_get];split
   ·rename_i hy
    rw[←hy,hx,←hn];rfl
   ·rfl
  show fixL Ls (setN p q)=p
  rw[e];exact fixL_same Ls p (fun q' hq'=>h q' (List.mem_cons_of_mem _ hq'))
theorem Fz.cover{p:List Ins}{j:Nat}{out:List Ins}{pl:Nat→Nat}(h:Fz p j out pl):∀(y:Nat) x,out[y]? =some x→x.skips=true→∃(k:Nat) (x0:Ins),k<j∧p[k]? =some x0∧x0.skips=true∧pl k=y:=by
 induction h with
 | start=>intro y x hx;simp at hx
 | @step i n out l j pl _ hs ih=>
  intro y x hx hsk
  by_cases hy:y<out.length
  ·rw[List.getElem?_append_left hy]at hx
   obtain⟨k,x0,h1,h2,h3,h4⟩:=ih y x hx hsk;exact⟨k,x0,by omega,h2,h3,by unfold plNew;rw[if_neg (by omega)];exact h4⟩
  ·rw[List.getElem?_append_right (by omega)]at hx
   have copy:∀d,d<n→p[i+d]? =some x→j=false→d=y-out.length→∃(k:Nat) (x0:Ins),k<i+n∧p[k]? =some x0∧x0.skips=true∧plNew i n out.length j pl k=y:=by
    intro d hd hp hj he;refine⟨i+d,x,by omega,hp,hsk, ?_⟩;unfold plNew;rw[if_pos (by omega),hj,if_neg (by simp)];omega
   cases hs with
   | one h1 h2=>
    have h0:y-out.length=0:=by
     have:=(List.getElem?_eq_some_iff.1 hx).1;simpa using this
    rw[h0]at hx;simp at hx;subst hx;exact copy 0 (by omega) (by simpa using h2) rfl h0.symm
   | @alone m h1 h2=>
    rw[List.getElem?_take]at hx;split at hx
    ·rename_i hlt
     rw[List.getElem?_drop]at hx;exact copy _ hlt hx rfl rfl
    ·cases hx
   | row h1 h2 h3 h4=>
    have:=code_ops _ x (List.mem_of_getElem? hx);rw[(mv_next this).2]at hsk;cases hsk
structure Stp(p q:List Ins)(i:Nat)(a b:Mv)(L':Nat):Prop where
 J:Jn p q i (a.size+b.size) L'
 pair:pairAt p i=some (a,b)
 first:∀j,j<i→pairAt p j=none
 mid:ndL p (i+a.size) a.t.toNat=false
 head:∀x,p[i]? =some x→x.op=2∨x.op=9
 head':∀x,q[i]? =some x→x.op=2∨x.op=9
 rj:readMv (q.drop i)=some { joinM a b with size:=L'}
 cj:(q.drop i).take L'=(joinM a b).code
 nd:∀r,ndL q i r=ndL p i r
theorem head_op{p c r:List Ins}{i:Nat}{m:Mv}(h:p.drop i=c++r)(hc:IsMv m c):∀x,p[i]? =some x→x.op=2∨x.op=9:=by
 intro x hx;obtain⟨y,l,rfl,h1,_⟩:=hc.head
 have:p[i]? =(p.drop i)[0]? :=by rw[List.getElem?_drop,Nat.add_zero]
 rw[this,h]at hx;simp at hx;rw[←hx];exact h1
theorem stp_of{p:List Ins}(hp:∀x∈p,x.right=true){i:Nat}{a b:Mv}(hpair:pairAt p i=some (a,b))(hfirst:∀j,j<i→pairAt p j=none):
    Stp p (put p i (a.size+b.size) (joinM a b).code) i a b (joinM a b).code.length:=by
 obtain⟨ca,cb,w,P⟩:=pair_open hp hpair;have hl:=P.lens;have hd:(put p i (a.size+b.size) (joinM a b).code).drop i=(joinM a b).code++p.drop (i+(a.size+b.size)):=put_drop (by omega);refine⟨P.jn hp,hpair,hfirst,P.dead_mid hp,head_op P.shape P.ma,head_op hd (code_isMv P.okj), ?_, ?_,P.nd_i hp⟩
 ·rw[hd];exact readMv_of (code_isMv P.okj) _
 ·rw[hd,List.take_left'];rfl
namespace Stp
variable {p q:List Ins} {i L':Nat} {a b:Mv}
theorem ra(S:Stp p q i a b L'):readMv (p.drop i)=some a:=(pairAt_some S.pair).1
theorem next_ge(S:Stp p q i a b L')(m:Mv){k:Nat}(h:i+(a.size+b.size)≤k):nextMv q m (mp i (a.size+b.size) L' k)=nextMv p m k:=by
 unfold nextMv;rw[S.J.readMv_ge h]
 cases readMv (p.drop k)with
 | none=>rfl
 | some o=>
  have e1:=S.J.inside_mp (a:=k) (b:=k+o.size) (.inr h) (by omega);rw[show k+o.size-k=o.size by omega]at e1;have e2:=S.J.nd_ge (j:=k+o.size) (by omega) m.t.toNat
  have e3:mp i (a.size+b.size) L' (k+o.size)=mp i (a.size+b.size) L' k+o.size:=by rw[S.J.ge (by omega),S.J.ge h];omega
  rw[e3]at e2;simp only[e1,e2]
theorem read_lt(S:Stp p q i a b L'){j:Nat}(h:j<i):readMv (q.drop j)=readMv (p.drop j):=by
 obtain⟨h1,h2⟩:=S.J.readMv_lt S.head S.head' h;rw[h1,h2]
theorem size_lt(S:Stp p q i a b L'){j:Nat}(h:j<i){m:Mv}(hm:readMv (p.drop j)=some m):j+m.size≤i:=by
 rw[(S.J.readMv_lt S.head S.head' h).2]at hm;obtain⟨c,r,e,hc⟩:=readMv_inv hm;have:=congrArg List.length e;have:=hc.length;simp at*;omega
theorem next_lt(S:Stp p q i a b L')(m:Mv){k:Nat}(h:k<i):nextMv q m k=nextMv p m k:=by
 unfold nextMv;rw[S.read_lt h]
 cases hr:readMv (p.drop k)with
 | none=>rfl
 | some o=>
  have hs:=S.size_lt h hr;have e1:=S.J.inside_mp (a:=k) (b:=k+o.size) (.inl (by omega)) (by omega);rw[show k+o.size-k=o.size by omega,mp_le (by omega)]at e1;have e2:=S.J.nd_mp S.nd (k+o.size) (.inl hs) m.t.toNat;rw[mp_le hs]at e2;simp only[e1,e2]
theorem next_i(S:Stp p q i a b L')(m:Mv)(h:nextMv p m i=none):nextMv q m i=none:=by
 cases hq:nextMv q m i with
 | none=>rfl
 | some o=>
  exfalso;obtain⟨h1,h2,h3,h4⟩:=nextMv_some hq;rw[S.rj]at h1;obtain rfl:=Option.some.inj h1;have hw:sameWay m a=true:=h2;obtain⟨w1,w2,w3,w4⟩:=sameWay_iff.1 hw
  have he:entd p i=false:=by
   rw[←S.J.entd_mp (.inl (lR' i)),mp_le (lR' i)];rw[Bool.eq_false_iff]at h3⊢;intro he;exact h3 (someIn_of (lR' i) (by have:=S.J.one;show i<i+L';omega) he)
  have hin:someIn (entd p) i (i+a.size)=false:=by
   rw[Bool.eq_false_iff];intro hs;unfold someIn at hs;rw[List.any_eq_true]at hs;obtain⟨j,hj,hs⟩:=hs;simp only[Bool.and_eq_true,decide_eq_true_eq,List.mem_range]at hs hj
   by_cases hji:j=i
   ·rw[hji,he]at hs;exact absurd hs.2 (by simp)
   ·have:=(pairAt_some S.pair).2.1
    rw[someIn_of (j:=j) (by omega) hj hs.2]at this;cases this
  unfold nextMv at h;rw[S.ra]at h;simp only at h;rw[if_pos ⟨hw,hin,by rw[w2];exact S.mid⟩]at h;cases h
theorem row_ge(S:Stp p q i a b L'){m all all':Mv}{k k':Nat}(h:Row p m k all k' all'):i+(a.size+b.size)≤k→Row q m (mp i (a.size+b.size) L' k) all (mp i (a.size+b.size) L' k') all':=by
 induction h with
 | stop h=>intro hk;exact .stop (by rw[S.next_ge _ hk];exact h)
 | @more k k' all all' o h _ ih=>
  intro hk
  have e3:mp i (a.size+b.size) L' (k+o.size)=mp i (a.size+b.size) L' k+o.size:=by rw[S.J.ge (by omega),S.J.ge hk];omega
  have:=ih (by omega);rw[e3]at this;exact .more (by rw[S.next_ge _ hk];exact h) this
theorem pair_ge(S:Stp p q i a b L'){k:Nat}(h:i+(a.size+b.size)≤k):pairAt q (mp i (a.size+b.size) L' k)=pairAt p k:=by
 unfold pairAt;rw[S.J.readMv_ge h]
 cases readMv (p.drop k)with
 | none=>rfl
 | some m=>
  have e0:mp i (a.size+b.size) L' (k+1)=mp i (a.size+b.size) L' k+1:=by rw[S.J.ge (by omega),S.J.ge h];omega
  have e3:mp i (a.size+b.size) L' (k+m.size)=mp i (a.size+b.size) L' k+m.size:=by rw[S.J.ge (by omega),S.J.ge h];omega
  have e2:=S.next_ge m (k:=k+m.size) (by omega);rw[e3]at e2;simp only[e2]
  by_cases hm:1≤m.size
  ·have e1:=S.J.inside_mp (a:=k+1) (b:=k+m.size) (.inr (by omega)) (by omega)
   rw[e0,show mp i (a.size+b.size) L' k+1+(k+m.size-(k+1))=mp i (a.size+b.size) L' k+m.size by omega]at e1;rw[e1]
  ·have e:m.size=0:=by omega
   rw[e]
   have n1:someIn (entd q) (mp i (a.size+b.size) L' k+1) (mp i (a.size+b.size) L' k+0)=false:=by
    rw[Bool.eq_false_iff];intro hs;unfold someIn at hs;rw[List.any_eq_true]at hs;obtain⟨j,hj,hs⟩:=hs;simp only[Bool.and_eq_true,decide_eq_true_eq,List.mem_range]at hs hj;omega
   have n2:someIn (entd p) (k+1) (k+0)=false:=by
    rw[Bool.eq_false_iff];intro hs;unfold someIn at hs;rw[List.any_eq_true]at hs;obtain⟨j,hj,hs⟩:=hs;simp only[Bool.and_eq_true,decide_eq_true_eq,List.mem_range]at hs hj;omega
   rw[n1,n2]
theorem pair_lt(S:Stp p q i a b L'){j:Nat}(h:j<i):pairAt q j=none:=by
 have hf:=S.first j h;unfold pairAt;rw[S.read_lt h]
 cases hr:readMv (p.drop j)with
 | none=>rfl
 | some m=>
  simp only;have hs:=S.size_lt h hr;rcases pairAt_none hf hr with h1 | h1
  ·have h2:1≤m.size:=by
     obtain⟨c,r,_,hc⟩:=readMv_inv hr;have:=hc.size_ge;omega
   have e1:=S.J.inside_mp (a:=j+1) (b:=j+m.size) (.inl (by omega)) (by omega);rw[mp_le (by omega),show j+1+(j+m.size-(j+1))=j+m.size by omega,h1]at e1;rw[if_pos e1]
  ·split
   ·rfl
   ·have:nextMv q m (j+m.size)=none:=by
      by_cases hk:j+m.size<i
      ·rw[S.next_lt m hk];exact h1
      ·have e:j+m.size=i:=by omega
       rw[e]at h1⊢;exact S.next_i m h1
    rw[this];rfl
theorem seg_lt(S:Stp p q i a b L'){j n:Nat}{l:List Ins}{c:Bool}(h:j<i)(hs:Seg p j n l c):c=false∧j+n≤i∧∃l',Seg q j n l' false∧ErL l l':=by
 have hf:=S.first j h
 cases hs with
 | @one x h1 h2=>
  refine⟨rfl,by omega,[fixI i (a.size+b.size) L' j x],.one (by rw[S.read_lt h];exact h1) (S.J.before j x h h2),rfl, ?_⟩;intro y u u' hu hu'
  cases y with
  | zero=>simp at hu hu';rw[←hu,←hu'];exact fix_er _ _ _ _ _
  | succ y=>simp at hu
 | @alone m h1 h2=>
  have hs:=S.size_lt h h1;refine⟨rfl,hs,(q.drop j).take m.size,.alone (by rw[S.read_lt h];exact h1) (S.pair_lt h), ?_, ?_⟩
  ·have:=S.J.le;have:=S.J.len;have:=S.J.one
   simp;omega
  ·intro y u u' hu hu'
   rw[List.getElem?_take]at hu hu';split at hu
   ·rename_i hy
    rw[if_pos hy]at hu';rw[List.getElem?_drop]at hu hu';rw[S.J.before (j+y) u (by omega) hu]at hu';rw[←Option.some.inj hu'];exact fix_er _ _ _ _ _
   ·cases hu
 | @row m all o k h1 h2 h3 h4=>
  exfalso;unfold pairAt at hf;rw[h1]at hf;simp only at hf;rw[if_neg (by simp[h2]),h3]at hf;cases hf
theorem seg_ge(S:Stp p q i a b L'){j n:Nat}{l:List Ins}{c:Bool}(h:i+(a.size+b.size)≤j)(hs:Seg p j n l c):Seg q (mp i (a.size+b.size) L' j) n l c:=by
 cases hs with
 | @one x h1 h2=>
  have:=S.J.get h2 (.inr h);have hp:=S.J.pos;rw[if_neg (by omega)]at this;exact .one (by rw[S.J.readMv_ge h];exact h1) this
 | @alone m h1 h2=>
  have:=Seg.alone (p:=q) (i:=mp i (a.size+b.size) L' j) (m:=m) (by rw[S.J.readMv_ge h];exact h1) (by rw[S.pair_ge h];exact h2);rw[S.J.drop_mp h]at this;exact this
 | @row m all o k h1 h2 h3 h4=>
  have hge:=readMv_inv h1
  have hm:1≤m.size:=by
   obtain⟨c,r,_,hc⟩:=hge;have:=hc.size_ge;omega
  have hk:=h4.mono
  have e0:mp i (a.size+b.size) L' (j+1)=mp i (a.size+b.size) L' j+1:=by rw[S.J.ge (by omega),S.J.ge h];omega
  have e3:mp i (a.size+b.size) L' (j+m.size)=mp i (a.size+b.size) L' j+m.size:=by rw[S.J.ge (by omega),S.J.ge h];omega
  have e4:mp i (a.size+b.size) L' (j+m.size+o.size)=mp i (a.size+b.size) L' j+m.size+o.size:=by rw[S.J.ge (by omega),S.J.ge h];omega
  have e5:mp i (a.size+b.size) L' k-mp i (a.size+b.size) L' j=k-j:=by rw[S.J.ge (by omega),S.J.ge h];omega
  have e1:=S.J.inside_mp (a:=j+1) (b:=j+m.size) (.inr (by omega)) (by omega);rw[e0,show mp i (a.size+b.size) L' j+1+(j+m.size-(j+1))=mp i (a.size+b.size) L' j+m.size by omega]at e1;have e2:=S.next_ge m (k:=j+m.size) (by omega);rw[e3]at e2;have hr:=S.row_ge h4 (by omega);rw[e4]at hr;have:=Seg.row (p:=q) (i:=mp i (a.size+b.size) L' j) (m:=m) (o:=o) (by rw[S.J.readMv_ge h];exact h1) (by rw[e1];exact h2) (by rw[e2];exact h3) hr;rw[e5]at this;exact this
theorem seg_i(S:Stp p q i a b L'){n:Nat}{l:List Ins}{c:Bool}(hs:Seg p i n l c):c=true∧i+(a.size+b.size)≤i+n∧∃n' c',Seg q i n' l c'∧mp i (a.size+b.size) L' (i+n)=i+n'∧(c'=false→n=a.size+b.size):=by
 have hfit:=S.J.pos
 cases hs with
 | one h1 _=>rw[S.ra]at h1;cases h1
 | alone _ h2=>rw[S.pair]at h2;cases h2
 | @row m all o k h1 h2 h3 h4=>
  rw[S.ra]at h1;obtain rfl:=Option.some.inj h1;rw[(pairAt_some S.pair).2.2]at h3;obtain rfl:=Option.some.inj h3;have hk:=h4.mono
  have eL:i+a.size+b.size=i+(a.size+b.size):=by omega
  rw[eL]at h4;have hw:sameWay a { joinM a b with size:=L'}=true:=sameWay_iff.2 ⟨rfl,rfl,rfl,rfl⟩
  have em:mp i (a.size+b.size) L' (i+(a.size+b.size))=i+L':=by rw[S.J.ge (lR' _)];omega
  refine⟨rfl,by omega, ?_⟩
  cases h4 with
  | stop hn=>
   have hq:nextMv q { joinM a b with size:=L'} (i+L')=none:=by
    rw[←nextMv_congr hw,←em,S.next_ge a (lR' _)];exact hn
   have hpq:pairAt q i=none:=by
    unfold pairAt;rw[S.rj];simp only;split
    ·rfl
    ·rw[hq];rfl
   have:=Seg.alone (p:=q) (i:=i) S.rj hpq;simp only at this;rw[S.cj]at this;exact⟨L',false,this,by rw[show i+(i+(a.size+b.size)-i)=i+(a.size+b.size) by omega];exact em,fun _=>by omega⟩
  | @more _ _ _ _ o2 hn hr=>
   have hq:nextMv q { joinM a b with size:=L'} (i+L')=some o2:=by
    rw[←nextMv_congr hw,←em,S.next_ge a (lR' _)];exact hn
   have hr2:=((S.row_ge hr (by omega)).congr hw).sized L'
   have e4:mp i (a.size+b.size) L' (i+(a.size+b.size)+o2.size)=i+L'+o2.size:=by rw[S.J.ge (by omega)];omega
   rw[e4]at hr2;have:=Seg.row (p:=q) (i:=i) S.rj S.J.out' hq hr2;rw[code_sized]at this;have hk2:=hr.mono;have ek:mp i (a.size+b.size) L' k=k-(a.size+b.size)+L':=S.J.ge (by omega);refine⟨mp i (a.size+b.size) L' k-i,true,this, ?_,fun h=>by cases h⟩;rw[show i+(k-i)=k by omega,ek];omega
theorem fz(S:Stp p q i a b L'){j:Nat}{out:List Ins}{pl:Nat→Nat}(h:Fz p j out pl):(j≤i∨i+(a.size+b.size)≤j)∧∃out' pl',Fz q (mp i (a.size+b.size) L' j) out' pl'∧ErL out out'∧∀k,(k≤i∨i+(a.size+b.size)≤k)→k<j→pl' (mp i (a.size+b.size) L' k)=pl k:=by
 induction h with
 | @start pl=>exact⟨.inl (by omega),[],pl,by rw[mp_le (by omega)];exact .start,.refl _,fun k _ hk=>by omega⟩
 | @step j n out l c pl _ hs ih=>
  obtain⟨hv,out',pl',h1,h2,h3⟩:=ih;have hlen:=h2.len;have hpos:=S.J.pos;rcases Nat.lt_trichotomy j i with hj | hj | hj
  ·obtain⟨rfl,hle,l',h4,h5⟩:=S.seg_lt hj hs
   rw[mp_le (by omega)]at h1;refine⟨.inl hle,out'++l',plNew j n out'.length false pl', ?_,h2.append h5, ?_⟩
   ·rw[mp_le hle];exact .step h1 h4
   ·intro k hk hlt
    have hk':k≤i:=by omega
    have:=h3 k hk;rw[mp_le hk']at this⊢;unfold plNew;rw[hlen]
    by_cases hkj:j≤k∧k<j+n
    ·rw[if_pos hkj,if_pos hkj]
    ·rw[if_neg hkj,if_neg hkj];exact this (by omega)
  ·subst hj
   obtain⟨rfl,hle,n',c',h4,h5,h6⟩:=S.seg_i hs;rw[mp_le (lR' _)]at h1;refine⟨.inr hle,out'++l,plNew j n' out'.length c' pl', ?_,h2.append (.refl _), ?_⟩
   ·rw[h5];exact .step h1 h4
   ·intro k hk hlt
    unfold plNew;rw[hlen]
    by_cases hkj:k<j
    ·have:=h3 k hk hkj
     rw[mp_le (by omega)]at this⊢;rw[if_neg (by omega),if_neg (by omega)];exact this
    ·have hR:(if j≤k∧k<j+n then(if true=true then out'.length else out'.length+(k-j))else pl k)=out'.length:=by rw[if_pos ⟨by omega,hlt⟩,if_pos rfl]
     rw[hR]
     by_cases hke:k=j
     ·subst hke
      have hn':1≤n':=by
       have:=S.J.one;rw[S.J.ge (by omega)]at h5;omega
      rw[mp_le (lR' _),if_pos ⟨lR' _,by omega⟩];split
      ·rfl
      ·omega
     ·have hk2:j+(a.size+b.size)≤k:=by omega
      have e1:mp j (a.size+b.size) L' k=k-(a.size+b.size)+L':=S.J.ge hk2;have e2:mp j (a.size+b.size) L' (j+n)=j+n-(a.size+b.size)+L':=S.J.ge (by omega)
      have hin:j≤mp j (a.size+b.size) L' k∧mp j (a.size+b.size) L' k<j+n':=by omega
      rw[if_pos hin]
      cases c' with
      | true=>rfl
      | false=>exfalso;have:=h6 rfl;omega
  ·have hj2:i+(a.size+b.size)≤j:=by omega
   have h4:=S.seg_ge hj2 hs
   have e1:mp i (a.size+b.size) L' (j+n)=mp i (a.size+b.size) L' j+n:=by rw[S.J.ge (by omega),S.J.ge hj2];omega
   refine⟨.inr (by omega),out'++l,plNew (mp i (a.size+b.size) L' j) n out'.length c pl', ?_,h2.append (.refl _), ?_⟩
   ·rw[e1];exact .step h1 h4
   ·intro k hk hlt
    have hm:=h3 k hk;unfold plNew;rw[hlen]
    by_cases hkj:j≤k∧k<j+n
    ·have e2:mp i (a.size+b.size) L' k=k-(a.size+b.size)+L':=S.J.ge (by omega)
     have e3:mp i (a.size+b.size) L' j=j-(a.size+b.size)+L':=S.J.ge hj2;rw[if_pos hkj,if_pos (by omega)];split
     ·rfl
     ·omega
    ·have hlt':k<j:=by omega
     have hno:¬(mp i (a.size+b.size) L' j≤mp i (a.size+b.size) L' k∧mp i (a.size+b.size) L' k<mp i (a.size+b.size) L' j+n):=by
      have:=(S.J.lt_iff hk hv).2 hlt';omega
     rw[if_neg hkj,if_neg hno];exact hm hlt'
theorem filterMap_same{α β:Type}{f g:α→Option β}:∀ {l:List α},(∀x∈l,f x=g x)→l.filterMap f=l.filterMap g
 | [],_=>rfl
 | x::l,h=>by
  rw[List.filterMap_cons,List.filterMap_cons,h x (List.mem_cons_self ..),filterMap_same (fun y hy=>h y (List.mem_cons_of_mem _ hy))]
theorem fixes_eq(S:Stp p q i a b L'){pl pl':Nat→Nat}(h:∀k,(k≤i∨i+(a.size+b.size)≤k)→k≤p.length→pl' (mp i (a.size+b.size) L' k)=pl k)(hin:∀(k:Nat) x,p[k]? =some x→x.skips=true→k+1+x.n.toNat≤p.length):
    fixes q pl'=fixes p pl:=by
 have hle:=S.J.le;have hlen:=S.J.len;have hone:=S.J.one;have hpos:=S.J.pos;obtain⟨d,hd⟩:∃d,p.length=i+(a.size+b.size)+d:=⟨p.length-(i+(a.size+b.size)),by omega⟩
 have hq:q.length=i+L'+d:=by omega
 have at_:∀k,(k<i∨i+(a.size+b.size)≤k)→k<p.length→fixAt q pl' (mp i (a.size+b.size) L' k)=fixAt p pl k:=by
  intro k hk hlt;have hx:p[k]? =some p[k]:=List.getElem?_eq_getElem hlt;generalize p[k]=x at hx;unfold fixAt;rw[hx,S.J.get hx hk];simp only
  by_cases hs:x.skips=true
  ·have hs':(if k<i then fixI i (a.size+b.size) L' k x else x).skips=true:=by split;rwa[fix_skips];exact hs
   have hg:=S.J.goes_to hx hs;rw[if_pos hs,if_pos hs',h k (by omega) (by omega),hg,h _ (S.J.goal hx hs) (hin k x hx hs)]
  ·have hs':¬(if k<i then fixI i (a.size+b.size) L' k x else x).skips=true:=by split;rwa[fix_skips];exact hs
   rw[if_neg hs,if_neg hs']
 have none_M:∀k,i≤k→k<i+(a.size+b.size)→fixAt p pl k=none:=by
  intro k h1 h2;unfold fixAt
  cases hx:p[k]? with
  | none=>rfl
  | some x=>
   simp only;rw[if_neg];rw[(mv_next (S.J.opsM k x h1 h2 hx)).2];simp
 have none_C:∀k,i≤k→k<i+L'→fixAt q pl' k=none:=by
  intro k h1 h2;unfold fixAt
  cases hx:q[k]? with
  | none=>rfl
  | some x=>
   simp only;rw[if_neg];rw[(mv_next (S.J.opsC k x h1 h2 hx)).2];simp
 have nil:∀(f:Nat→Option (Nat×Int)) (L:Nat),(∀k,i≤k→k<i+L→f k=none)→((List.range L).map (i+·)).filterMap f=[]:=by
  intro f L hf;rw[List.filterMap_eq_nil_iff];intro k hk;obtain⟨y,hy,rfl⟩:=List.mem_map.1 hk;have:=List.mem_range.1 hy;exact hf _ (by omega) (by omega)
 unfold fixes;rw[hq,hd,List.range_add,List.range_add,List.range_add,List.range_add,List.filterMap_append,List.filterMap_append,List.filterMap_append,List.filterMap_append,nil _ _ none_M,nil _ _ none_C,List.append_nil,List.append_nil];congr 1
 ·apply filterMap_same
  intro k hk;have hk':=List.mem_range.1 hk;have:=at_ k (.inl hk') (by omega);rwa[mp_le (by omega)]at this
 ·rw[List.filterMap_map,List.filterMap_map]
  apply filterMap_same;intro k hk;have hk':=List.mem_range.1 hk;have:=at_ (i+(a.size+b.size)+k) (.inr (by omega)) (by omega);rw[mp_ge hpos]at this;exact this
end Stp
theorem fz_none{p:List Ins}(hn:∀j,j<p.length→pairAt p j=none){j:Nat}{out:List Ins}{pl:Nat→Nat}(h:Fz p j out pl):j≤p.length∧out=p.take j∧∀k,k<j→pl k=k:=by
 induction h with
 | start=>exact⟨by omega,by simp,fun k hk=>by omega⟩
 | @step i n out l c pl _ hs ih=>
  obtain⟨h1,h2,h3⟩:=ih
  have hlen:out.length=i:=by rw[h2];simp;omega
  have pls:∀k,k<i+n→plNew i n out.length false pl k=k:=by
   intro k hk;unfold plNew;split
   ·rw[if_neg (by simp)];omega
   ·exact h3 k (by omega)
  cases hs with
  | @one x h4 h5=>
   have hlt:=(List.getElem?_eq_some_iff.1 h5).1;exact⟨by omega,by rw[h2,List.take_add_one,h5];rfl,pls⟩
  | @alone m h4 h5=>
   obtain⟨c,r,e,hc⟩:=readMv_inv h4;have hl:=congrArg List.length e;have:=hc.length;simp at hl;have:=hc.size_ge;refine⟨by omega, ?_,pls⟩;rw[h2,List.take_add]
  | @row m all o k h4 h5 h6 h7=>
   exfalso
   have hi:i<p.length:=by
    obtain⟨c,r,e,hc⟩:=readMv_inv h4;have hl:=congrArg List.length e;have:=hc.length;have:=hc.size_ge;simp at hl;omega
   have:=hn i hi;unfold pairAt at this;rw[h4]at this;simp only at this;rw[if_neg (by simp[h5]),h6]at this;cases this
theorem once_some{p q:List Ins}(h:once p=some q):∃i a b,pairAt p i=some (a,b)∧(∀j,j<i→pairAt p j=none)∧q=put p i (a.size+b.size) (joinM a b).code:=by
 unfold once at h
 cases hf:(List.range p.length).find? fun i=>(pairAt p i).isSome with
 | none=>rw[hf]at h;cases h
 | some i=>
  rw[hf]at h;simp only at h;rw[List.find?_range_eq_some]at hf
  cases hp:pairAt p i with
  | none=>rw[hp]at h;cases h
  | some ab=>
   obtain⟨a,b⟩:=ab;rw[hp]at h;simp only[Option.some.injEq]at h;refine⟨i,a,b,hp,fun j hj=> ?_,h.symm⟩;have:=hf.2.2 j hj;simpa using this
theorem once_none{p:List Ins}(h:once p=none):∀j,j<p.length→pairAt p j=none:=by
 unfold once at h
 cases hf:(List.range p.length).find? fun i=>(pairAt p i).isSome with
 | none=>
  rw[List.find?_range_eq_none]at hf;intro j hj;have:=hf j hj;simpa using this
 | some i=>
  rw[hf]at h;simp only at h;rw[List.find?_range_eq_some]at hf;have:=hf.1
  cases hp:pairAt p i with
  | none=>rw[hp]at this;cases this
  | some ab=>rw[hp]at h;cases h
end Go.Proofs.YtpibampaobncaaaGreatDoor.B
namespace Go.Proofs.YtpibampaobncaaaGreatDoor.B
theorem touch_code{m:Mv}{c:List Ins}(h:IsMv m c){size slots:Int}(ht:∀x∈c,∃left,x.touch size slots left=0)(hr:∀x∈c,x.right=true):(m.e:Int)≤size:=by
 cases h with
 | @inn x z sh s h1 h2 h3 h4 h5=>
  obtain⟨left,h⟩:=ht z (by simp);have:=right_bounds (hr z (by simp));unfold Ins.touch at h;rw[if_pos (by omega)]at h;split at h
  ·omega
  ·show(((z.b+z.n).toNat:Nat):Int)≤size;omega
 | @out x y z sh s h1 h2 h3 h4 h5 h6 h7=>
  obtain⟨left,h⟩:=ht x (by simp);have:=right_bounds (hr x (by simp));unfold Ins.touch at h;rw[if_pos (by omega)]at h;split at h
  ·omega
  ·show(((x.b+x.n).toNat:Nat):Int)≤size;omega
theorem code_touch{m:Mv}(h:m.Ok){size slots:Int}(he:(m.e:Int)≤size)(left:Int):∀x∈m.code,x.touch size slots left=0:=by
 have hbe:=h.be
 have hmid:∀x∈m.mid,x.touch size slots left=0:=by
  intro x hx;have:=(sh_ops (mid_sh m) x hx).1;unfold Ins.touch;rw[if_neg (by omega),if_neg (by omega),if_neg (by omega)]
 intro x hx;unfold Mv.code at hx;split at hx
 ·rcases List.mem_cons.1 hx with h | h
  ·rw[h];simp[Ins.touch]
  ·rcases List.mem_append.1 h with h | h
   ·exact hmid x h
   ·rw[List.mem_singleton.1 h]
    simp[Ins.touch];omega
 ·rcases List.mem_cons.1 hx with h | h
  ·rw[h];simp[Ins.touch];omega
  ·rcases List.mem_cons.1 h with h | h
   ·rw[h];simp[Ins.touch]
   ·rcases List.mem_append.1 h with h | h
    ·exact hmid x h
    ·rw[List.mem_singleton.1 h];simp[Ins.touch]
theorem goal_in{p:List Ins}{size slots:Int}(ok:OkTouch p size slots)(k:Nat)(x:Ins)(hx:p[k]? =some x)(hs:x.skips=true):k+1+x.n.toNat≤p.length:=
 goes_le ok hx (.inr ⟨hs,rfl⟩:x.goes k (k+1+x.n.toNat))
theorem fix_right{i L L' k:Nat}{x:Ins}(h:x.right=true)(hk:k<i)(hl:L'≤L):(fixI i L L' k x).right=true:=by
 by_cases hs:x.skips=true
 ·unfold fixI
  split
  ·rename_i hc
   have hb:=right_bounds h
   have h1:0≤x.n-(L:Int)+(L':Int):=by omega
   have h2:x.n-(L:Int)+(L':Int)≤16384:=by omega
   clear hc;unfold Ins.skips at hs;simp only[Bool.or_eq_true,decide_eq_true_eq]at hs;unfold Ins.right hiN loN at h⊢
   rcases hs with hs | hs<;>simp[hs]at h⊢<;>exact⟨⟨h.1.1,h1,h2⟩,h.2⟩
  ·exact h
 ·rw[fix_same (by simpa using hs)];exact h
theorem step_ok{p:List Ins}{size slots:Int}(ok:OkTouch p size slots){i:Nat}{a b:Mv}(hpair:pairAt p i=some (a,b))(hfirst:∀j,j<i→pairAt p j=none):
    OkTouch (put p i (a.size+b.size) (joinM a b).code) size slots:=by
 have hp:=ok.mem;have S:=stp_of hp hpair hfirst;obtain⟨ca,cb,w,P⟩:=pair_open hp hpair;have hcr:=P.code_right;have hl:=P.lens;have hge:=S.J.less;have hone:=S.J.one;have hlen:=S.J.len;generalize hq:put p i (a.size+b.size) (joinM a b).code=q at S hlen
 have hnew:∀(k:Nat) x,i≤k→k<i+(joinM a b).code.length→q[k]? =some x→x∈(joinM a b).code:=by
  intro k x h1 h2 hx;obtain⟨d,rfl⟩:∃d,k=i+d:=⟨k-i,by omega⟩;rw[←hq,put_new (by omega) (by omega)]at hx;exact List.mem_of_getElem? hx
 have he:((joinM a b).e:Int)≤size:=by
  have h1:=drop_split P.shape;rw[P.ma.length]at h1
  have ht:∀x∈p,∃left,x.touch size slots left=0:=by
   intro x hx;obtain⟨k,hk⟩:=List.getElem?_of_mem hx;exact⟨_,ok.touch k x hk⟩
  have ea:=touch_code P.ma (size:=size) (slots:=slots) (fun x hx=>ht x (mem_drop P.shape hx)) (fun x hx=>hp x (mem_drop P.shape hx));have eb:=touch_code P.mb (size:=size) (slots:=slots) (fun x hx=>ht x (mem_drop h1 hx)) (fun x hx=>hp x (mem_drop h1 hx))
  show((max a.e b.e:Nat):Int)≤size
  omega
 constructor
 ·intro k' y hy
  rcases S.J.got hy with⟨k,x,hk,rfl,hx,rfl⟩ | ⟨h1,h2,_⟩
  ·split
   ·exact fix_right (ok.right k x hx) (by assumption) hge
   ·exact ok.right k x hx
  ·exact hcr y (hnew k' y h1 h2 hy)
 ·intro k' y hy
  rcases S.J.got hy with⟨k,x,hk,rfl,hx,rfl⟩ | ⟨h1,h2,_⟩
  ·have ht:=ok.touch k x hx
   have hlt:=(List.getElem?_eq_some_iff.1 hx).1;have hb:=right_bounds (ok.right k x hx)
   by_cases hs:x.skips=true
   ·have hg:=S.J.goes_to hx hs
    have hgl:=goal_in ok k x hx hs;have hgv:=S.J.goal hx hs
    have hm:mp i (a.size+b.size) (joinM a b).code.length (k+1+x.n.toNat)≤q.length:=by
     rcases hgv with h | h
     ·rw[mp_le h];omega
     ·rw[S.J.ge h];omega
    have hy':(if k<i then fixI i (a.size+b.size) (joinM a b).code.length k x else x).skips=true:=by split;rwa[fix_skips];exact hs
    have hr:(if k<i then fixI i (a.size+b.size) (joinM a b).code.length k x else x).right=true:=by
     split
     ·exact fix_right (ok.right k x hx) (by assumption) hge
     ·exact ok.right k x hx
    generalize(if k<i then fixI i (a.size+b.size) (joinM a b).code.length k x else x)=y at*;have hyb:=right_bounds hr;unfold Ins.skips at hy';simp at hy';unfold Ins.touch;rw[if_neg (by omega),if_neg (by omega),if_pos (by omega),if_neg (by omega)]
   ·have e:(if k<i then fixI i (a.size+b.size) (joinM a b).code.length k x else x)=x:=by
      split
      ·exact fix_same (by simpa using hs)
      ·rfl
    rw[e];unfold Ins.skips at hs;simp at hs;unfold Ins.touch at ht⊢
    by_cases h9:9≤x.op∧x.op≤13
    ·rw[if_pos h9]at ht⊢;exact ht
    ·rw[if_neg h9]at ht⊢
     by_cases h15:15≤x.op∧x.op≤17
     ·rw[if_pos h15]at ht⊢;exact ht
     ·rw[if_neg h15]at ht⊢
      rw[if_neg (by omega)]
  ·exact code_touch P.okj he _ y (hnew k' y h1 h2 hy)
theorem MayRun.nd0{p:List Ins}{size slots:Int}(h:MayRun p size slots)(r:Nat):ndL p 0 r=false:=nd_may (fun j x hx hr=>h.read j x hx r hr) 0 .start
theorem step_may{p:List Ins}{size slots:Int}(h:MayRun p size slots){i:Nat}{a b:Mv}(hpair:pairAt p i=some (a,b))(hfirst:∀j,j<i→pairAt p j=none):
    MayRun (put p i (a.size+b.size) (joinM a b).code) size slots:=by
 have S:=stp_of h.ok.mem hpair hfirst;have h1:=S.J.len;have h2:=S.J.less;have hlen:=h.len;refine⟨h.hsize,h.hslots,by omega,step_ok h.ok hpair hfirst,fun j x hx r hr=> ?_⟩;refine nd_read ?_ hx hr;have:=S.J.nd_mp S.nd 0 (.inl (by omega)) r;rw[mp_le (by omega)]at this;rw[this];exact h.nd0 r
theorem step_less{p:List Ins}(hp:∀x∈p,x.right=true){i:Nat}{a b:Mv}(hpair:pairAt p i=some (a,b)):(put p i (a.size+b.size) (joinM a b).code).length<p.length:=by
 obtain⟨ca,cb,w,P⟩:=pair_open hp hpair;have h1:=P.less;have h2:=(P.jn hp).len;omega
theorem plEnd_lt{len n k:Nat}{pl:Nat→Nat}(h:k<len):plEnd len n pl k=pl k:=by unfold plEnd;rw[if_neg (by omega)]
theorem plEnd_end{len n:Nat}{pl:Nat→Nat}:plEnd len n pl len=n:=by unfold plEnd;rw[if_pos rfl]
theorem pass{size slots:Int}:∀(f:Nat) {p:List Ins},p.length≤f→OkTouch p size slots→∀ {out:List Ins} {pl:Nat→Nat},Fz p p.length out pl→fixL (fixes p (plEnd p.length out.length pl)) out=fuseN f p:=by
 intro f
 have done:∀ {p:List Ins},OkTouch p size slots→(∀j,j<p.length→pairAt p j=none)→∀ {out:List Ins} {pl:Nat→Nat},Fz p p.length out pl→fixL (fixes p (plEnd p.length out.length pl)) out=p:=by
  intro p ok hn out pl h;obtain⟨_,h2,h3⟩:=fz_none hn h;rw[List.take_length]at h2;subst h2
  have hpl:∀k,k≤out.length→plEnd out.length out.length pl k=k:=by
   intro k hk
   by_cases he:k=out.length
   ·rw[he,plEnd_end]
   ·rw[plEnd_lt (by omega),h3 k (by omega)]
  refine fixL_same _ _ ?_;intro q hq;unfold fixes at hq;obtain⟨k,hk,hq⟩:=List.mem_filterMap.1 hq;have hk':=List.mem_range.1 hk;unfold fixAt at hq
  cases hx:out[k]? with
  | none=>rw[hx]at hq;cases hq
  | some x=>
   rw[hx]at hq;simp only at hq;split at hq
   ·rename_i hs
    have hg:=goal_in ok k x hx hs;have hb:=right_bounds (ok.right k x hx);rw[hpl k (by omega),hpl _ hg]at hq;rw[←Option.some.inj hq];exact⟨x,hx,by simp only;omega⟩
   ·cases hq
 induction f with
 | zero=>
  intro p hf ok out pl h;exact done ok (fun j hj=>by omega) h
 | succ f ih=>
  intro p hf ok out pl h
  cases ho:once p with
  | none=>
   have e:fuseN (f+1) p=p:=by unfold fuseN;rw[ho]
   rw[e];exact done ok (once_none ho) h
  | some q=>
   have e:fuseN (f+1) p=fuseN f q:=by
    conv=>lhs;unfold fuseN
    rw[ho]
   rw[e];obtain⟨i,a,b,hpair,hfirst,rfl⟩:=once_some ho;have hless:=step_less ok.mem hpair;have ok':=step_ok ok hpair hfirst;have S:=stp_of ok.mem hpair hfirst;generalize put p i (a.size+b.size) (joinM a b).code=q at S hless ok';obtain⟨hv,out',pl',h1,h2,h3⟩:=S.fz h;have hlen:=S.J.len;have hle:=S.J.le
   have em:mp i (a.size+b.size) (joinM a b).code.length p.length=q.length:=by rw[S.J.ge hle];omega
   rw[em]at h1;have key:=ih (by omega) ok' h1;rw[←key]
   have hfx:fixes q (plEnd q.length out'.length pl')=fixes p (plEnd p.length out.length pl):=by
    refine S.fixes_eq ?_ (goal_in ok);intro k hk hkl
    by_cases he:k=p.length
    ·rw[he,em,plEnd_end,plEnd_end,h2.len]
    ·have hlt:k<p.length:=by omega
     have:=(S.J.lt_iff hk (.inr hle)).2 hlt;rw[em]at this;rw[plEnd_lt hlt,plEnd_lt this];exact h3 k hk hlt
   rw[hfx];refine fixL_er _ h2 ?_;intro y x hx hs;obtain⟨k,x0,hk,hx0,hs0,hy⟩:=h.cover y x hx hs
   left
   refine⟨(plEnd p.length out.length pl k,(plEnd p.length out.length pl (k+1+x0.n.toNat):Int)-(plEnd p.length out.length pl k:Int)-1), ?_,by rw[plEnd_lt hk];exact hy⟩;unfold fixes;rw[List.mem_filterMap];exact⟨k,List.mem_range.2 hk,by unfold fixAt;rw[hx0];simp only;rw[if_pos hs0]⟩
theorem fuse_pass{p:List Ins}{size slots:Int}(ok:OkTouch p size slots){out:List Ins}{pl:Nat→Nat}(h:Fz p p.length out pl):fixL (fixes p (plEnd p.length out.length pl)) out=fuse p:=pass p.length (lR' _) ok h
theorem fuseN_may{size slots:Int}:∀(f:Nat) {p:List Ins},MayRun p size slots→MayRun (fuseN f p) size slots
 | 0,_,h=>h
 | f+1,p,h=>by
  unfold fuseN
  cases ho:once p with
  | none=>exact h
  | some q=>
   obtain⟨i,a,b,hpair,hfirst,rfl⟩:=once_some ho;exact fuseN_may f (step_may h hpair hfirst)
theorem MayRun.fuse{p:List Ins}{size slots:Int}(h:MayRun p size slots):MayRun (B.fuse p) size slots:=fuseN_may _ h
theorem fuseN_once{size slots:Int}:∀(f:Nat) {p:List Ins},p.length≤f→OkTouch p size slots→once (fuseN f p)=none
 | 0,p,hf,_=>by
  have:p=[]:=List.length_eq_zero_iff.1 (by omega);subst this;rfl
 | f+1,p,hf,ok=>by
  unfold fuseN
  cases ho:once p with
  | none=>exact ho
  | some q=>
   obtain⟨i,a,b,hpair,hfirst,rfl⟩:=once_some ho;have:=step_less ok.mem hpair;exact fuseN_once f (by omega) (step_ok ok hpair hfirst)
theorem fuseN_done:∀(f:Nat) {p:List Ins},once p=none→fuseN f p=p
 | 0,_,_=>rfl
 | f+1,p,h=>by unfold fuseN;rw[h]
theorem fuse_fuse{p:List Ins}{size slots:Int}(ok:OkTouch p size slots):B.fuse (B.fuse p)=B.fuse p:=fuseN_done _ (fuseN_once _ (lR' _) ok)
theorem fuseN_len{size slots:Int}:∀(f:Nat) {p:List Ins},OkTouch p size slots→(fuseN f p).length≤p.length
 | 0,_,_=>lR' _
 | f+1,p,ok=>by
  unfold fuseN
  cases ho:once p with
  | none=>exact lR' _
  | some q=>
   obtain⟨i,a,b,hpair,hfirst,rfl⟩:=once_some ho;have h1:=step_less ok.mem hpair;have h2:=fuseN_len f (step_ok ok hpair hfirst);exact Nat.le_trans h2 (by omega)
theorem fuse_len{p:List Ins}{size slots:Int}(ok:OkTouch p size slots):(B.fuse p).length≤p.length:=fuseN_len _ ok
end Go.Proofs.YtpibampaobncaaaGreatDoor.B
namespace Go.Proofs.YtpibampaobncaaaGreatDoor.B
theorem readMv_fits{p:List Ins}{i:Nat}{m:Mv}(h:readMv (p.drop i)=some m):i+m.size≤p.length∧2≤m.size:=by
 obtain⟨c,r,hc,hm⟩:=readMv_inv h;have h1:=hm.length;have h2:=congrArg List.length hc;have h3:=hm.size_ge;rw[List.length_drop,List.length_append]at h2;exact⟨by omega,h3⟩
theorem read_ok{p:List Ins}{i:Nat}{m:Mv}(hp:∀x∈p,x.right=true)(h:readMv (p.drop i)=some m):m.Ok:=by
 obtain⟨c,r,hc,hm⟩:=readMv_inv h;exact hm.ok (fun x hx=>hp x (mem_drop hc hx))
theorem pair_alone{p:List Ins}{i:Nat}{m:Mv}(hm:readMv (p.drop i)=some m)(h:someIn (entd p) (i+1) (i+m.size)=true∨nextMv p m (i+m.size)=none):pairAt p i=none:=by
 unfold pairAt;rw[hm];rcases h with h | h
 ·simp only[h,if_true]
 ·simp only[h,Option.map_none];split<;>rfl
structure RowAt(p:List Ins)(i:Nat)(m:Mv)(k:Nat)(all:Mv):Prop where
 chain:∀k' all',Row p m k all k' all'→Row p m (i+m.size) m k' all'
 ok:all.Ok
 same:sameWay m all=true
 le:k≤p.length
 ge:i+m.size≤k
theorem RowAt.start{p:List Ins}{i:Nat}{m:Mv}(hp:∀x∈p,x.right=true)(hm:readMv (p.drop i)=some m):RowAt p i m (i+m.size) m:=
 ⟨fun _ _ h=>h,read_ok hp hm,sameWay_iff.2 ⟨rfl,rfl,rfl,rfl⟩,(readMv_fits hm).1,lR' _⟩
theorem RowAt.next{p:List Ins}{i k:Nat}{m all o:Mv}(h:RowAt p i m k all)(hp:∀x∈p,x.right=true)(hn:nextMv p m k=some o):RowAt p i m (k+o.size) (joinM all o):=by
 obtain⟨h1,h2,_⟩:=nextMv_some hn;have hs:=sameWay_iff.1 h.same;have hw:=sameWay_iff.1 h2;refine⟨fun k' all' hr=>h.chain k' all' (.more hn hr),joinM_ok h.ok (read_ok hp h1) (sameWay_iff.2 ⟨hs.1.symm.trans hw.1,hs.2.1.symm.trans hw.2.1,hs.2.2.1.symm.trans hw.2.2.1,hs.2.2.2.symm.trans hw.2.2.2⟩),sameWay_iff.2 hs,(readMv_fits h1).1,Nat.le_trans h.ge (Nat.le_add_right _ _)⟩
theorem RowAt.stop{p:List Ins}{i k:Nat}{m all:Mv}(h:RowAt p i m k all)(hm:readMv (p.drop i)=some m)(hin:someIn (entd p) (i+1) (i+m.size)=false)(hn:nextMv p m k=none):
    (k=i+m.size∧Seg p i m.size ((p.drop i).take m.size) false)∨(i+m.size<k∧Seg p i (k-i) all.code true):=by
 have hr:=h.chain k all (.stop hn);have hge:=h.ge
 by_cases e:k=i+m.size
 ·rw[e]at hn
  exact .inl ⟨e,.alone hm (pair_alone hm (.inr hn))⟩
 ·refine .inr ⟨by omega, ?_⟩
  generalize hq:i+m.size=q at*
  have key:∀ {k0 k1:Nat} {a0 a1:Mv},Row p m k0 a0 k1 a1→k1≠k0→k0=q→a0=m→Seg p i (k1-i) a1.code true:=by
   intro k0 k1 a0 a1 hr
   cases hr with
   | stop _=>intro hne;exact absurd rfl hne
   | more hn' hr'=>
    rintro _ rfl rfl;rw[←hq]at hn' hr' hin;exact .row hm hin hn' hr'
  exact key hr e rfl rfl
structure Told(p:List Ins)(i:Nat)(m:Mv)(n:Nat)(l:List Ins)(c:Bool):Prop where
 seg:Seg p i n l c
 joined:c=true→m.size<n∧l=m.code∧m.Ok
 single:c=false→n≤m.size∧l=(p.drop i).take n
 one:1≤n
 fits:i+n≤p.length
theorem Told.none{p:List Ins}{i:Nat}{x:Ins}(m:Mv)(hs:m.size=1)(hx:p[i]? =some x)(h:readMv (p.drop i)=none):Told p i m 1 [x] false:=by
 have hi:=(List.getElem?_eq_some_iff.1 hx).1;have hx2:=(List.getElem?_eq_some_iff.1 hx).2;refine⟨.one h hx,fun h=>(by cases h),fun _=>⟨by omega, ?_⟩,lR' _,hi⟩;rw[List.drop_eq_getElem_cons hi,hx2];rfl
theorem Told.inside{p:List Ins}{i:Nat}{m:Mv}(hm:readMv (p.drop i)=some m)(h:someIn (entd p) (i+1) (i+m.size)=true):Told p i m m.size ((p.drop i).take m.size) false:=
 ⟨.alone hm (pair_alone hm (.inl h)),fun h=>(by cases h),fun _=>⟨lR' _,rfl⟩,by have:=(readMv_fits hm).2;omega,(readMv_fits hm).1⟩
theorem RowAt.told{p:List Ins}{i k:Nat}{m all:Mv}(h:RowAt p i m k all)(hm:readMv (p.drop i)=some m)(hin:someIn (entd p) (i+1) (i+m.size)=false)(hn:nextMv p m k=none):
    ∃l c,Told p i { all with size:=m.size} (k-i) l c:=by
 have h2:=(readMv_fits hm).2;have hge:=h.ge;have hle:=h.le;rcases h.stop hm hin hn with⟨e,hs⟩ | ⟨hlt,hs⟩
 ·subst e
  refine⟨(p.drop i).take m.size,false, ?_⟩;rw[show i+m.size-i=m.size by omega];exact⟨hs,fun h=>(by cases h),fun _=>⟨lR' _,rfl⟩,by omega,by omega⟩
 ·refine⟨all.code,true,⟨hs,fun _=>⟨by show m.size<_;omega,(code_sized all m.size).symm, ?_⟩,fun h=>(by cases h),by omega,by omega⟩⟩
  exact⟨h.ok.t0,h.ok.t15,h.ok.v0,h.ok.v15,h.ok.ne,h.ok.be,h.ok.e8,h.ok.bits,h.ok.sh0,h.ok.sh1⟩
theorem nextMv_none{p:List Ins}{m:Mv}{k:Nat}(h:readMv (p.drop k)=none):nextMv p m k=none:=by
 unfold nextMv;rw[h]
theorem nextMv_not{p:List Ins}{m o:Mv}{k:Nat}(h:readMv (p.drop k)=some o)(hn:¬(sameWay m o=true∧someIn (entd p) k (k+o.size)=false∧ndL p (k+o.size) m.t.toNat=false)):nextMv p m k=none:=by
 unfold nextMv;rw[h];simp only;rw[if_neg hn]
theorem nextMv_yes{p:List Ins}{m o:Mv}{k:Nat}(h:readMv (p.drop k)=some o)(hn:sameWay m o=true∧someIn (entd p) k (k+o.size)=false∧ndL p (k+o.size) m.t.toNat=false):nextMv p m k=some o:=by
 unfold nextMv;rw[h];simp only;rw[if_pos hn]
theorem Seg.len{p:List Ins}{i n:Nat}{l:List Ins}{c:Bool}(h:Seg p i n l c):(c=true→1≤l.length)∧(c=false→l.length=n):=by
 cases h with
 | one _ _=>exact⟨fun h=>(by cases h),fun _=>rfl⟩
 | alone hm _=>
  refine⟨fun h=>(by cases h),fun _=> ?_⟩;have:=(readMv_fits hm).1;rw[List.length_take,List.length_drop];omega
 | row _ _ _ _=>exact⟨fun _=>Nat.le_trans (by omega) code_len.1,fun h=>(by cases h)⟩
theorem Fz.lt{p:List Ins}{j:Nat}{out:List Ins}{pl:Nat→Nat}(h:Fz p j out pl):∀k,k<j→pl k<out.length:=by
 induction h with
 | start=>intro k hk;omega
 | step _ hs ih=>
  intro k hk;obtain⟨h1,h2⟩:=hs.len;unfold plNew;rw[List.length_append];split
  ·split
   ·rename_i h;have:=h1 h;omega
   ·rename_i h;have:=h2 (by simpa using h);omega
  ·have:=ih k (by omega);omega
theorem Told.step{p:List Ins}{i n:Nat}{out l:List Ins}{c:Bool}{pl:Nat→Nat}{m:Mv}(h:Fz p i out pl)(ht:Told p i m n l c):Fz p (i+n) (out++l) (plNew i n out.length c pl):=.step h ht.seg
def fixTo(p:List Ins)(pl:Nat→Nat)(out:List Ins)(k:Nat):List Ins:=fixL ((List.range k).filterMap (fixAt p pl)) out
theorem fixTo_all(p:List Ins)(pl:Nat→Nat)(out:List Ins):fixTo p pl out p.length=fixL (fixes p pl) out:=rfl
theorem fixTo_skip{p:List Ins}{pl:Nat→Nat}{out:List Ins}{k:Nat}{x:Ins}(hx:p[k]? =some x)(hs:x.skips=true):
    fixTo p pl out (k+1)=setN (fixTo p pl out k) (pl k,(pl (k+1+x.n.toNat):Int)-(pl k:Int)-1):=by
 unfold fixTo
 have e:fixAt p pl k=some (pl k,(pl (k+1+x.n.toNat):Int)-(pl k:Int)-1):=by
  unfold fixAt;rw[hx];simp only;rw[if_pos hs]
 rw[List.range_succ,List.filterMap_append,List.filterMap_cons_some e];unfold fixL;rw[List.foldl_append];rfl
theorem fixTo_same{p:List Ins}{pl:Nat→Nat}{out:List Ins}{k:Nat}{x:Ins}(hx:p[k]? =some x)(hs:x.skips=false):fixTo p pl out (k+1)=fixTo p pl out k:=by
 unfold fixTo
 have e:fixAt p pl k=none:=by
  unfold fixAt;rw[hx];simp only;rw[if_neg (by simp[hs])]
 rw[List.range_succ,List.filterMap_append,List.filterMap_cons_none e];simp
theorem fixTo_length(p:List Ins)(pl:Nat→Nat)(out:List Ins)(k:Nat):(fixTo p pl out k).length=out.length:=by
 unfold fixTo;generalize(List.range k).filterMap (fixAt p pl)=L
 induction L generalizing out with
 | nil=>rfl
 | cons q L ih=>show(fixL L (setN out q)).length=_;rw[ih,setN_length]
end Go.Proofs.YtpibampaobncaaaGreatDoor.B
namespace Go.Proofs.YtpibampaobncaaaGreatDoor.B
open Go
theorem up_lt{b e f v:Nat}(hv:v<2^(8*(e-b)))(h1:b≤e)(h2:e≤8)(hf:f≤b):v*2^(8*(b-f))<18446744073709551616:=by
 have h3:v*2^(8*(b-f))<2^(8*(e-b))*2^(8*(b-f)):=Nat.mul_lt_mul_of_pos_right hv (Nat.two_pow_pos _);rw[←Nat.pow_add]at h3;have h4:2^(8*(e-b)+8*(b-f))≤2^64:=Nat.pow_le_pow_right (by omega) (by omega)
 have h5:(2:Nat)^64=18446744073709551616:=by decide
 omega
theorem up_wrap{v k:Nat}(h:v*2^k<18446744073709551616):IntKind.u64.wrap ((v:Int)*2^k)=((v<<<k:Nat):Int):=by
 rw[Nat.shiftLeft_eq]
 have e:((v:Int)*2^k)=((v*2^k:Nat):Int):=by push_cast;rfl
 rw[e];generalize v*2^k=u at*;exact IntWalk.u64_in _ (by omega)
theorem join_bits{m o:Mv}(hm:m.Ok)(ho:o.Ok):
    bits .or .u64 (IntKind.u64.wrap ((m.bits:Int)*2^(8*(m.b-min m.b o.b)))) (IntKind.u64.wrap ((o.bits:Int)*2^(8*(o.b-min m.b o.b))))=((joinM m o).bits:Int):=by
 have h1:=up_lt hm.bits (by have:=hm.be;omega) hm.e8 (Nat.min_le_left m.b o.b);have h2:=up_lt ho.bits (by have:=ho.be;omega) ho.e8 (Nat.min_le_right m.b o.b);rw[up_wrap h1,up_wrap h2,u64_or_nat _ _ (by rw[Nat.shiftLeft_eq];exact h1) (by rw[Nat.shiftLeft_eq];exact h2)];rfl
def entdTo(p:List Ins)(k j:Nat):Bool:=(List.range k).any fun q=>match p[q]? with | some x=>x.skips&&decide (q+1+x.n.toNat=j) | none=>false
theorem entdTo_all(p:List Ins)(j:Nat):entdTo p p.length j=entd p j:=rfl
theorem entdTo_next{p:List Ins}{k:Nat}{x:Ins}(hx:p[k]? =some x)(j:Nat):entdTo p (k+1) j=(entdTo p k j||(x.skips&&decide (k+1+x.n.toNat=j))):=by
 unfold entdTo;rw[List.range_succ,List.any_append];simp[hx]
theorem someIn_cons(st:Nat→Bool){a b:Nat}(h:a<b):someIn st a b=(st a||someIn st (a+1) b):=by
 rw[Bool.eq_iff_iff];unfold someIn;simp only[List.any_eq_true,List.mem_range,Bool.and_eq_true,decide_eq_true_eq,Bool.or_eq_true];constructor
 ·rintro⟨j,hj,h1,h2⟩
  by_cases e:j=a
  ·subst e;exact .inl h2
  ·exact .inr ⟨j,hj,by omega,h2⟩
 ·rintro(h1 | ⟨j,hj,h1,h2⟩)
  ·exact⟨a,h,lR' _,h1⟩
  ·exact⟨j,hj,by omega,h2⟩
theorem someIn_none(st:Nat→Bool){a b:Nat}(h:b≤a):someIn st a b=false:=by
 unfold someIn;rw[List.any_eq_false];intro j hj;have:=List.mem_range.1 hj
 have:¬a≤j:=by omega
 simp[this]
end Go.Proofs.YtpibampaobncaaaGreatDoor.B
namespace Go.Proofs.YtpibampaobncaaaGreatDoor.B
theorem Seg.short{p:List Ins}{i n:Nat}{l:List Ins}{c:Bool}(h:Seg p i n l c):l.length≤n:=by
 cases h with
 | one _ _=>exact lR' 1
 | alone hm _=>rw[List.length_take];exact Nat.min_le_left _ _
 | row hm _ hn hr=>
  have h1:=(readMv_fits hm).2;have h2:=(readMv_fits (nextMv_some hn).1).2;have h3:=hr.mono;refine Nat.le_trans code_len.2 ?_
  split<;>omega
theorem Fz.short{p:List Ins}{j:Nat}{out:List Ins}{pl:Nat→Nat}(h:Fz p j out pl):out.length≤j:=by
 induction h with
 | start=>exact lR' _
 | step _ hs ih=>
  have:=hs.short;rw[List.length_append];omega
theorem plNew_in{i n len k:Nat}{c:Bool}{pl:Nat→Nat}(h1:i≤k)(h2:k<i+n):plNew i n len c pl k=if c=true then len else len+(k-i):=by
 unfold plNew;rw[if_pos ⟨h1,h2⟩]
theorem plNew_out{i n len k:Nat}{c:Bool}{pl:Nat→Nat}(h:k<i):plNew i n len c pl k=pl k:=by
 unfold plNew;rw[if_neg (by omega)]
end Go.Proofs.YtpibampaobncaaaGreatDoor.B
