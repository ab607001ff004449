/- Plain Lean: a text's units, as the document reads them. -/
import Derived.Test.YtljhklblbafjkaaGreatDoorLoQ
import Derived.Lib.TrimUEq
namespace Go.Proofs.YtljhklblbafjkaaGreatDoor.B
def illAt(s:ByteArray)(i:Nat):Bool:=decide ((Utf8.decode s i).1=65533)&&decide ((Utf8.decode s i).2=1)
theorem ill_iff(s:ByteArray)(i:Nat)(h:(Utf8.decode s i).1=65533):(Utf8.decode s i).2=1↔(s.size≤i+2∨(s.get! i).toNat≠239∨(s.get! (i+1)).toNat≠191∨(s.get! (i+2)).toNat≠189):=by
 have l0:(s.get! i).toNat<256:=(s.get! i).toNat_lt;have l1:(s.get! (i+1)).toNat<256:=(s.get! (i+1)).toNat_lt;have l2:(s.get! (i+2)).toNat<256:=(s.get! (i+2)).toNat_lt;have l3:(s.get! (i+3)).toNat<256:=(s.get! (i+3)).toNat_lt;have hz:(s.size≤i+2)=(s.size-i≤2):=propext ⟨fun h=>by omega,fun h=>by omega⟩;rw[Lib.decode_at]at h⊢;rw[hz];generalize(s.get! i).toNat=a at*;generalize(s.get! (i+1)).toNat=b at*;generalize(s.get! (i+2)).toNat=c at*;generalize(s.get! (i+3)).toNat=d at*;generalize s.size-i=n at*;clear hz
 revert h
 unfold Lib.decodeN
 repeat' split
 all_goals dsimp only
 all_goals(intro h;omega)
def unitsF(s:ByteArray):Nat→Nat→List (Nat×Bool)
 | 0,_=>[]
 | f+1,pos=>if pos<s.size then((Utf8.decode s pos).1,illAt s pos)::unitsF s f (pos+(Utf8.decode s pos).2)else []
def unitsL(s:ByteArray):List (Nat×Bool):=unitsF s s.size 0
theorem valid_units(s:ByteArray):∀f pos,Lib.validGoD f (s.data.toList.drop pos)= !(unitsF s f pos).any (fun u=>u.2)
 | 0,_=>rfl
 | f+1,pos=>by
  unfold Lib.validGoD unitsF
  by_cases h:pos<s.size
  ·have hne:s.data.toList.drop pos≠[]:=by
     intro e;have:=congrArg List.length e;simp at this;have h2:s.data.size=s.size:=rfl;omega
   rw[if_neg hne,if_pos h,Lib.decodeL_drop,List.any_cons,List.drop_drop,valid_units s f]
   by_cases h1:(Utf8.decode s pos).1=65533∧(Utf8.decode s pos).2=1
   ·rw[if_pos h1]
    unfold illAt;simp[h1.1,h1.2]
   ·rw[if_neg h1]
    have:illAt s pos=false:=by
     unfold illAt;simp only[Bool.and_eq_false_iff,decide_eq_false_iff_not]
     by_cases e:(Utf8.decode s pos).1=65533
     ·exact .inr fun e2=>h1 ⟨e,e2⟩
     ·exact .inl e
    rw[this,Bool.false_or]
  ·have he:s.data.toList.drop pos=[]:=List.drop_eq_nil_of_le (by
   have h2:s.data.toList.length=s.size:=by rw[Array.length_toList];rfl
   omega)
   rw[if_pos he,if_neg h];rfl
theorem idx_units(s:ByteArray):∀f pos,decide (0≤Lib.idxFuncFrom controlR true s f pos)=(unitsF s f pos).any (fun u=>controlR u.1)
 | 0,_=>rfl
 | f+1,pos=>by
  unfold Lib.idxFuncFrom unitsF
  by_cases h:pos<s.size
  ·rw[if_pos h,if_pos h,List.any_cons]
   by_cases h1:controlR (Utf8.decode s pos).1=true
   ·rw[if_pos h1,h1]
    simp
   ·rw[if_neg h1,idx_units s f]
    simp[h1]
  ·rw[if_neg h,if_neg h]
   rfl
def badU(u:Nat×Bool):Bool:=u.2||controlR u.1
theorem textNo_units(s:ByteArray):textNo s=if 1024<s.size then 5 else if(unitsL s).any badU=true then 6 else 0:=by
 unfold textNo Lib.validD Lib.idxFunc unitsL;have h1:=valid_units s s.size 0;have h2:=idx_units s s.size 0;rw[List.drop_zero]at h1
 have e:s.data.toList.length=s.size:=by rw[Array.length_toList];rfl
 rw[e,h1];split
 ·rfl
 ·have e3:(unitsF s s.size 0).any badU=((unitsF s s.size 0).any (fun u=>u.2)||(unitsF s s.size 0).any (fun u=>controlR u.1)):=by
    generalize unitsF s s.size 0=l
    induction l with
    | nil=>rfl
    | cons u l ih=>
     rw[List.any_cons,List.any_cons,List.any_cons,ih];unfold badU
     cases u.2<;>cases controlR u.1<;>simp
  rw[e3,←h2]
  by_cases h0:0≤Lib.idxFuncFrom controlR true s s.size 0
  ·cases(unitsF s s.size 0).any (fun u=>u.2)<;>simp[h0]
  ·cases(unitsF s s.size 0).any (fun u=>u.2)<;>simp[h0]
end Go.Proofs.YtljhklblbafjkaaGreatDoor.B
namespace Go.Proofs.YtljhklblbafjkaaGreatDoor.B
theorem fits_hi{v n:Nat}(hv:v<18446744073709551616)(h1:1≤n)(h64:n≤64)(sg:Bool):
    fits v n sg=if sg=true then(decide (v/2^(n-1)=0)||decide (v/2^(n-1)=18446744073709551615/2^(n-1)))else decide (v/2^(n-1)≤1):=by
 unfold fits extend low;rw[if_neg (show¬64<n by omega)];have hp:0<2^(n-1):=Nat.pow_pos (by decide)
 have h2:2^n=2*2^(n-1):=by rw[Nat.mul_comm,←Nat.pow_succ,show(n-1).succ=n by omega]
 have hq:2^(n-1)*2^(65-n)=18446744073709551616:=by rw[←Nat.pow_add,show n-1+(65-n)=64 by omega]
 have hq1:0<2^(65-n):=Nat.pow_pos (by decide);rw[h2]
 have hn64:n<64∨n=64:=by omega
 have hk:n<64→2^(65-n)=2*2^(64-n):=fun h=>by rw[Nat.mul_comm,←Nat.pow_succ,show(64-n).succ=65-n by omega]
 have hk1:n=64→2^(65-n)=2:=fun h=>by subst h;rfl
 have hk0:0<2^(64-n):=Nat.pow_pos (by decide);generalize 2^(n-1)=P at*;generalize 2^(65-n)=Q at*;generalize 2^(64-n)=K at*
 have c0:v/P=0↔v<P:=by
  constructor
  ·intro h
   rcases Nat.div_eq_zero_iff.1 h with h | h
   ·omega
   ·exact h
  ·exact Nat.div_eq_of_lt
 have c1:v/P≤1↔v<2*P:=by
  rw[←Nat.lt_succ_iff,Nat.div_lt_iff_lt_mul hp]
 have hall:18446744073709551615/P=Q-1:=by
  rw[Nat.div_eq_iff hp]
  have e:(Q-1)*P=18446744073709551616-P:=by rw[Nat.sub_mul,Nat.one_mul,Nat.mul_comm,hq]
  have hP:P≤18446744073709551616:=by rw[←hq];exact Nat.le_mul_of_pos_right _ hq1
  omega
 have c2:v/P=Q-1↔18446744073709551616-P≤v:=by
  have e:(Q-1)*P=18446744073709551616-P:=by rw[Nat.sub_mul,Nat.one_mul,Nat.mul_comm,hq]
  have hP:P≤18446744073709551616:=by rw[←hq];exact Nat.le_mul_of_pos_right _ hq1
  rw[Nat.div_eq_iff hp];omega
 rw[hall,Bool.eq_iff_iff]
 have hd:(decide (1≤n∧n≤64))=true:=by simp;omega
 rw[hd,Bool.true_and,beq_iff_eq];have hm:v%(2*P)<2*P:=Nat.mod_lt _ (by omega);have hdm:=Nat.div_add_mod v (2*P);have hlt:v%(2*P)=v↔v<2*P:=⟨fun h=>by omega,Nat.mod_eq_of_lt⟩
 cases sg with
 | false=>
  rw[if_neg (by simp),if_neg (by simp),decide_eq_true_eq,c1];exact hlt
 | true=>
  rw[if_pos rfl,Bool.or_eq_true,decide_eq_true_eq,decide_eq_true_eq,c0,c2];rcases hn64 with hn | hn
  ·have hK:2*P*K=18446744073709551616:=by rw[←hq,hk hn,Nat.mul_comm 2 P,Nat.mul_assoc]
   have hKv:2*P*(K-1)=18446744073709551616-2*P:=by rw[Nat.mul_sub,Nat.mul_one,hK]
   have hPl:2*P≤18446744073709551616:=by rw[←hK];exact Nat.le_mul_of_pos_right _ hk0
   have hkv:18446744073709551616-2*P≤v→v/(2*P)=K-1:=fun h=>by
    rw[Nat.div_eq_iff (by omega),Nat.mul_comm (K-1),hKv];omega
   by_cases hc:P≤v%(2*P)
   ·rw[if_pos ⟨rfl,h1,hn,hc⟩]
    constructor
    ·intro h
     right
     omega
    ·rintro(h | h)
     ·rw[hlt.2 (by omega)]at hc
      omega
     ·have e:=hkv (by omega)
      rw[e,hKv]at hdm;omega
   ·rw[if_neg (fun h=>hc h.2.2.2)]
    constructor
    ·intro h
     left
     omega
    ·rintro(h | h)
     ·exact hlt.2 (by omega)
     ·have e:=hkv (by omega)
      rw[e,hKv]at hdm;omega
  ·rw[if_neg (by omega),hlt]
   have:=hk1 hn;rw[this]at hq;omega
end Go.Proofs.YtljhklblbafjkaaGreatDoor.B
namespace Go.Proofs.YtljhklblbafjkaaGreatDoor.B
def setBit(p:List Nat)(j:Nat):List Nat:=p.set (j/8) (p.getD (j/8) 0|||2^(j%8))
theorem setBit_len(p:List Nat)(j:Nat):(setBit p j).length=p.length:=by simp[setBit]
theorem setBit_lt{p:List Nat}(hp:Bytes p)(j:Nat):p.getD (j/8) 0|||2^(j%8)<256:=by
 have h1:p.getD (j/8) 0<256:=by
  rw[List.getD_eq_getElem?_getD]
  cases e:p[j/8]? with
  | none=>decide
  | some x=>exact hp x (List.mem_of_getElem? e)
 exact Nat.or_lt_two_pow (n:=8) h1 (Nat.pow_lt_pow_right (by decide) (Nat.mod_lt _ (by decide)))
theorem setBit_bytes{p:List Nat}(hp:Bytes p)(j:Nat):Bytes (setBit p j):=fun x hx=>by
 rcases List.mem_or_eq_of_mem_set hx with hx | rfl
 ·exact hp x hx
 ·exact setBit_lt hp j
theorem setBit_bit{p:List Nat}{j:Nat}(h:j/8<p.length)(i:Nat):payBit (setBit p j) i=(payBit p i||decide (i=j)):=by
 unfold payBit setBit;rw[List.getD_eq_getElem?_getD,List.getElem?_set]
 by_cases e:j/8=i/8
 ·rw[if_pos e,if_pos h,Option.getD_some,Nat.testBit_or,Nat.testBit_two_pow,e]
  congr 1
  by_cases e2:i=j
  ·subst e2;simp
  ·have:¬j%8=i%8:=by omega
   simp[this,e2]
 ·rw[if_neg e,←List.getD_eq_getElem?_getD]
  have:¬i=j:=fun e2=>e (by rw[e2])
  simp[this]
def layL(v:Nat):Nat→List Nat→List Nat→List Nat
 | _,[],p=>p
 | k,b::l,p=>layL v (k+1) l (if v.testBit k=true then setBit p b else p)
theorem layL_len(v:Nat):∀(l:List Nat) (k:Nat) (p:List Nat),(layL v k l p).length=p.length
 | [],_,_=>rfl
 | b::l,k,p=>by
  rw[layL,layL_len v l];split
  ·exact setBit_len p b
  ·rfl
theorem layL_bytes(v:Nat):∀(l:List Nat) (k:Nat) (p:List Nat),Bytes p→Bytes (layL v k l p)
 | [],_,_,h=>h
 | b::l,k,p,h=>by
  rw[layL];refine layL_bytes v l _ _ ?_;split
  ·exact setBit_bytes h b
  ·exact h
theorem layL_bit(v:Nat):∀(l:List Nat) (k:Nat) (p:List Nat) (f:Nat→Bool),l.Nodup→(∀b∈l,b/8<p.length)→(∀b∈l,f b=false)→(∀j,payBit p j=f j)→∀j,payBit (layL v k l p) j=layF v k l f j
 | [],_,_,_,_,_,_,h,j=>h j
 | b::l,k,p,f,hn,hl,hf,h,j=>by
  show payBit (layL v (k+1) l _) j=layF v (k+1) l _ j
  have hn':=List.nodup_cons.1 hn;refine layL_bit v l (k+1) _ _ hn'.2 (fun x hx=> ?_) (fun x hx=> ?_) (fun i=> ?_) j
  ·have:=hl x (List.mem_cons_of_mem _ hx)
   split
   ·rw[setBit_len];exact this
   ·exact this
  ·have:x≠b:=fun e=>hn'.1 (e▸hx)
   rw[if_neg this];exact hf x (List.mem_cons_of_mem _ hx)
  ·by_cases hv:v.testBit k=true
   ·rw[if_pos hv,setBit_bit (hl b List.mem_cons_self),h i,hv]
    by_cases e:i=b
    ·simp[e]
    ·simp[e]
   ·rw[if_neg hv,h i]
    by_cases e:i=b
    ·subst e
     rw[if_pos rfl,hf i List.mem_cons_self];simpa using hv
    ·rw[if_neg e]
def laidL(inp:List Nat)(at':Nat):Nat→List Sig→List Nat→Except Nat (List Nat)
 | _,[],p=>.ok p
 | i,s::l,p=>
  if s.active at'=true then
   if fits (inp.getD i 0) s.size.toNat s.signed=true then laidL inp at' (i+1) l (layL (inp.getD i 0) 0 s.bits p)else .error i
  else laidL inp at' (i+1) l p
theorem laid_pack(inp:List Nat)(at':Nat):∀(l:List Sig) (i:Nat) (p:List Nat) (f:Nat→Bool),
    (∀(a b:Nat) s t,l[a]? =some s→l[b]? =some t→a≠b→s.active at'=true→t.active at'=true→∀x∈s.bits,x∉t.bits)→
    (∀s∈l,s.InPay p.length)→(∀s∈l,s.active at'=true→∀b∈s.bits,f b=false)→(∀j,payBit p j=f j)→Bytes p→
    match packTo inp at' i l f with
    | .error k=>laidL inp at' i l p= .error k
    | .ok g=>∃q,laidL inp at' i l p= .ok q∧q.length=p.length∧Bytes q∧∀j,payBit q j=g j
 | [],i,p,f,_,_,_,h,hp=>⟨p,rfl,rfl,hp,h⟩
 | s::l,i,p,f,hap,hin,hz,h,hp=>by
  have hap':∀(a b:Nat) s t,l[a]? =some s→l[b]? =some t→a≠b→s.active at'=true→t.active at'=true→∀x∈s.bits,x∉t.bits:=
   fun a b s' t ha hb hab=>hap (a+1) (b+1) s' t (by simpa using ha) (by simpa using hb) (by omega)
  unfold packTo laidL
  by_cases ha:s.active at'=true
  ·rw[if_pos ha,if_pos ha]
   by_cases hf:fits (inp.getD i 0) s.size.toNat s.signed=true
   ·rw[if_pos hf,if_pos hf]
    have hs:=hin s List.mem_cons_self;have hl:(layL (inp.getD i 0) 0 s.bits p).length=p.length:=layL_len _ _ _ _
    have:=laid_pack inp at' l (i+1) (layL (inp.getD i 0) 0 s.bits p) (layF (inp.getD i 0) 0 s.bits f) hap' (fun t ht=>by rw[hl];exact hin t (List.mem_cons_of_mem _ ht)) (fun t ht hta b hb=>by
     obtain⟨c,hc⟩:=List.getElem?_of_mem ht
     have hnb:b∉s.bits:=fun hbs=>hap 0 (c+1) s t rfl (by simpa using hc) (by omega) ha hta b hbs hb
     rw[layF_out _ _ _ _ _ hnb]
     exact hz t (List.mem_cons_of_mem _ ht) hta b hb)
     (layL_bit _ _ _ _ _ s.bits_nodup hs.bits (hz s List.mem_cons_self ha) h) (layL_bytes _ _ _ _ hp)
    rw[hl]at this;exact this
   ·rw[if_neg hf,if_neg hf]
  ·rw[if_neg ha,if_neg ha]
   exact laid_pack inp at' l (i+1) p f hap' (fun t ht=>hin t (List.mem_cons_of_mem _ ht)) (fun t ht=>hz t (List.mem_cons_of_mem _ ht)) h hp
theorem payBit_ext{a b:List Nat}(hl:a.length=b.length)(ha:Bytes a)(hb:Bytes b)(h:∀j,payBit a j=payBit b j):a=b:=by
 refine list_getD 0 hl fun j hj=> ?_
 have h1:∀(p:List Nat),Bytes p→p.getD j 0<256:=fun p hp=>by
  rw[List.getD_eq_getElem?_getD]
  cases e:p[j]? with
  | none=>decide
  | some x=>exact hp x (List.mem_of_getElem? e)
 refine Nat.eq_of_testBit_eq fun i=> ?_
 by_cases hi:i<8
 ·have:=h (8*j+i)
  unfold payBit at this;rw[show(8*j+i)/8=j by omega,show(8*j+i)%8=i by omega]at this;exact this
 ·rw[testBit_lt256 (h1 a ha) (by omega),testBit_lt256 (h1 b hb) (by omega)]
theorem run_laid{m:Msg}(h:m.Ok){inp pay:List Nat}(hp:pay.length=m.size.toNat)(hb:Bytes pay)(slots:Nat):
    match laidL inp (m.muxV inp) 0 m.sigs (List.replicate m.size.toNat 0)with
    | .error k=>(run m.packI inp 0 (start pay slots)).failed=some (k:Int)
    | .ok q=>∃s' n,run m.packI inp 0 (start pay slots)=⟨none,s',n⟩∧s'.has=List.replicate slots false∧s'.pay=q:=by
 have h1:=laid_pack inp (m.muxV inp) m.sigs 0 (List.replicate m.size.toNat 0) (fun _=>false) (h.apartA _) (fun s hs=>by rw[List.length_replicate];exact h.inPay s hs) (fun _ _ _ _ _=>rfl) (fun j=>zeros_bit _ j) (fun x hx=>by rw[List.eq_of_mem_replicate hx];decide);have h2:=pack_run h.lays (inp:=inp) hp hb slots
 cases hpk:packTo inp (m.muxV inp) 0 m.sigs (fun _=>false)with
 | error k=>
  rw[hpk]at h1 h2;rw[h1];exact h2
 | ok f=>
  rw[hpk]at h1 h2;obtain⟨q,hq,hql,hqb,hqf⟩:=h1;obtain⟨s',n,hr,_,hh,hpl,hpb,hpf⟩:=h2;rw[hq];rw[List.length_replicate]at hql;exact⟨s',n,hr,hh,payBit_ext (by rw[hpl,hql]) hpb hqb fun j=>by rw[hpf,hqf]⟩
end Go.Proofs.YtljhklblbafjkaaGreatDoor.B
