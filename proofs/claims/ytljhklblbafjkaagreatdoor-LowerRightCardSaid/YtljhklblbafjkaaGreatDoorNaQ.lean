/- Plain Lean: natural numbers as digits to the base 2^32, the lowest first. -/
import Std
import Derived.Test.YtljhklblbafjkaaGreatDoorLoQ
namespace Go.Proofs.YtljhklblbafjkaaGreatDoor.B
def dval:List Nat→Nat
 | []=>0
 | d::l=>d+4294967296*dval l
def Digs(l:List Nat):Prop:=∀d∈l,d<4294967296
def dig(n:Nat):List Nat:=if h:n=0 then []else(n%4294967296)::dig (n/4294967296)
termination_by n
decreasing_by omega
theorem dig_zero:dig 0=[]:=by unfold dig;rfl
theorem dig_pos{n:Nat}(h:n≠0):dig n=(n%4294967296)::dig (n/4294967296):=by rw[dig];simp[h]
theorem dval_dig(n:Nat):dval (dig n)=n:=by
 induction n using Nat.strongRecOn with
 | _ n ih=>
  by_cases h:n=0
  ·subst h;rw[dig_zero];rfl
  ·rw[dig_pos h,dval,ih _ (by omega)]
   omega
theorem digs_dig(n:Nat):Digs (dig n):=by
 induction n using Nat.strongRecOn with
 | _ n ih=>
  by_cases h:n=0
  ·subst h;rw[dig_zero];intro d hd;cases hd
  ·rw[dig_pos h]
   intro d hd;rcases List.mem_cons.1 hd with rfl | hd
   ·omega
   ·exact ih _ (by omega) d hd
theorem dig_nil{n:Nat}:dig n=[]↔n=0:=by
 constructor
 ·intro h
  have:=dval_dig n;rw[h]at this;exact this.symm
 ·rintro rfl
  exact dig_zero
theorem dval_append(a b:List Nat):dval (a++b)=dval a+4294967296^a.length*dval b:=by
 induction a with
 | nil=>simp[dval]
 | cons x a ih=>
  rw[List.cons_append,dval,dval,ih,List.length_cons,Nat.pow_succ,Nat.mul_add,Nat.add_assoc];congr 2;rw[←Nat.mul_assoc,Nat.mul_comm 4294967296 (4294967296^a.length)]
theorem dval_lt{l:List Nat}(h:Digs l):dval l<4294967296^l.length:=by
 induction l with
 | nil=>simp[dval]
 | cons d l ih=>
  have h1:=h d (by simp)
  have h2:=ih fun x hx=>h x (List.mem_cons_of_mem _ hx)
  rw[dval,List.length_cons,Nat.pow_succ];omega
theorem dval_zeros(n:Nat):dval (List.replicate n 0)=0:=by
 induction n with
 | zero=>rfl
 | succ n ih=>rw[List.replicate_succ,dval,ih]
theorem dig_of{l:List Nat}(h:Digs l)(ht:∀d,l.getLast? =some d→d≠0):dig (dval l)=l:=by
 induction l with
 | nil=>exact dig_zero
 | cons d l ih=>
  have h1:=h d (by simp)
  have hl:Digs l:=fun x hx=>h x (List.mem_cons_of_mem _ hx)
  have hne:dval (d::l)≠0:=by
   intro e;rw[dval]at e
   cases l with
   | nil=>exact ht d rfl (by omega)
   | cons x l=>
    have hx:=ih hl (fun y hy=>ht y (by rw[List.getLast?_cons_cons];exact hy))
    have hz:dval (x::l)=0:=by omega
    rw[hz,dig_zero]at hx;cases hx
  rw[dig_pos hne]
  have e1:dval (d::l)%4294967296=d:=by rw[dval];omega
  have e2:dval (d::l)/4294967296=dval l:=by rw[dval];omega
  rw[e1,e2]
  cases l with
  | nil=>rw[show dval []=0 from rfl,dig_zero]
  | cons x l=>rw[ih hl (fun y hy=>ht y (by rw[List.getLast?_cons_cons];exact hy))]
theorem trim_dig{l:List Nat}{n:Nat}(h:Digs l)(hn:n≤l.length)(hz:∀k,n≤k→k<l.length→l.getD k 0=0)(ht:n=0∨l.getD (n-1) 0≠0):l.take n=dig (dval l):=by
 have hd:l.drop n=List.replicate (l.length-n) 0:=by
  apply List.ext_getElem?;intro i;rw[List.getElem?_drop,List.getElem?_replicate]
  by_cases hi:i<l.length-n
  ·rw[if_pos hi]
   have:=hz (n+i) (by omega) (by omega);rw[List.getD_eq_getElem?_getD,List.getElem?_eq_getElem (by omega)]at this;rw[List.getElem?_eq_getElem (by omega)];exact congrArg some this
  ·rw[if_neg hi,List.getElem?_eq_none (by omega)]
 have hv:dval l=dval (l.take n):=by
  conv=>lhs;rw[←List.take_append_drop n l]
  rw[dval_append,hd,dval_zeros];simp
 rw[hv];refine(dig_of (fun d hd=>h d (List.mem_of_mem_take hd)) fun d hd=> ?_).symm;rcases ht with rfl | ht
 ·simp at hd
 ·rw[List.getLast?_eq_getElem?,List.length_take,Nat.min_eq_left hn,List.getElem?_take]at hd
  by_cases h0:n=0
  ·subst h0;simp at hd
  ·rw[if_pos (by omega)]at hd
   rw[List.getD_eq_getElem?_getD,hd]at ht;exact ht
theorem dig_length_le{n k:Nat}(h:n<4294967296^k):(dig n).length≤k:=by
 induction k generalizing n with
 | zero=>
  have:n=0:=by simpa using h
  subst this;rw[dig_zero];exact Nat.le_refl _
 | succ k ih=>
  by_cases h0:n=0
  ·subst h0;rw[dig_zero];exact Nat.zero_le _
  ·rw[dig_pos h0,List.length_cons]
   have:n/4294967296<4294967296^k:=by
    rw[Nat.pow_succ]at h;exact Nat.div_lt_of_lt_mul (by rw[Nat.mul_comm];exact h)
   exact Nat.succ_le_succ (ih this)
theorem lt_dig(n:Nat):n<4294967296^(dig n).length:=by
 have:=dval_lt (digs_dig n);rwa[dval_dig]at this
theorem dig_get(n i:Nat):(dig n).getD i 0=n/4294967296^i%4294967296:=by
 induction i generalizing n with
 | zero=>
  by_cases h0:n=0
  ·subst h0;rw[dig_zero];rfl
  ·rw[dig_pos h0];simp
 | succ i ih=>
  by_cases h0:n=0
  ·subst h0;rw[dig_zero];simp
  ·rw[dig_pos h0,List.getD_cons_succ,ih,Nat.div_div_eq_div_mul,Nat.pow_succ,Nat.mul_comm]
theorem dval_take_succ(l:List Nat)(i:Nat):dval (l.take (i+1))=dval (l.take i)+4294967296^i*l.getD i 0:=by
 by_cases h:i<l.length
 ·rw[List.take_add_one,dval_append,List.length_take,Nat.min_eq_left (by omega),List.getElem?_eq_getElem h,List.getD_eq_getElem?_getD,List.getElem?_eq_getElem h]
  simp[dval]
 ·rw[List.take_of_length_le (by omega),List.take_of_length_le (by omega),List.getD_eq_getElem?_getD,List.getElem?_eq_none (by omega)]
  simp
theorem dval_snoc(l:List Nat)(d:Nat):dval (l++[d])=dval l+4294967296^l.length*d:=by
 rw[dval_append];simp[dval]
theorem plus_step{a b l:List Nat}{i c:Nat}(ha:Digs a)(hb:Digs b)(hl:l.length=i)(hc:c≤1)(h:dval l+4294967296^i*c=dval (a.take i)+dval (b.take i)):
    (l++[(a.getD i 0+b.getD i 0+c)%4294967296]).length=i+1∧(a.getD i 0+b.getD i 0+c)/4294967296≤1∧
     dval (l++[(a.getD i 0+b.getD i 0+c)%4294967296])+4294967296^(i+1)*((a.getD i 0+b.getD i 0+c)/4294967296)=dval (a.take (i+1))+dval (b.take (i+1)):=by
 have h1:∀(l:List Nat),Digs l→l.getD i 0<4294967296:=fun l hl=>by
  rw[List.getD_eq_getElem?_getD]
  cases e:l[i]? with
  | none=>decide
  | some d=>exact hl d (List.mem_of_getElem? e)
 have ha1:=h1 a ha;have hb1:=h1 b hb;refine⟨by simp[hl],by omega, ?_⟩;rw[dval_snoc,hl,dval_take_succ,dval_take_succ];generalize hn:a.getD i 0+b.getD i 0+c=n
 have e:4294967296^i*(n%4294967296)+4294967296^(i+1)*(n/4294967296)=4294967296^i*n:=by
  rw[Nat.pow_succ,Nat.mul_assoc,←Nat.mul_add];congr 1;omega
 have e2:4294967296^i*n=4294967296^i*a.getD i 0+4294967296^i*b.getD i 0+4294967296^i*c:=by
  rw[←hn,Nat.mul_add,Nat.mul_add]
 omega
end Go.Proofs.YtljhklblbafjkaaGreatDoor.B
namespace Go.Proofs.YtljhklblbafjkaaGreatDoor.B
theorem digs_get{l:List Nat}(h:Digs l)(i:Nat):l.getD i 0<4294967296:=by
 rw[List.getD_eq_getElem?_getD]
 cases e:l[i]? with
 | none=>decide
 | some d=>exact h d (List.mem_of_getElem? e)
theorem digs_snoc{l:List Nat}(h:Digs l){d:Nat}(hd:d<4294967296):Digs (l++[d]):=fun x hx=>by
 rcases List.mem_append.1 hx with hx | hx
 ·exact h x hx
 ·obtain rfl:=List.mem_singleton.1 hx
  exact hd
theorem digs_set{l:List Nat}(h:Digs l)(i:Nat){d:Nat}(hd:d<4294967296):Digs (l.set i d):=fun x hx=>by
 rcases List.mem_or_eq_of_mem_set hx with hx | rfl
 ·exact h x hx
 ·exact hd
theorem plus_end{a b c:Nat}{l:List Nat}(hlen:l.length=max (dig a).length (dig b).length+1)(h:dval l+4294967296^l.length*c=dval ((dig a).take l.length)+dval ((dig b).take l.length)):dval l=a+b:=by
 rw[List.take_of_length_le (by omega),List.take_of_length_le (by omega),dval_dig,dval_dig]at h;have h1:a<4294967296^(max (dig a).length (dig b).length):=Nat.lt_of_lt_of_le (lt_dig a) (Nat.pow_le_pow_right (by decide) (Nat.le_max_left _ _));have h2:b<4294967296^(max (dig a).length (dig b).length):=Nat.lt_of_lt_of_le (lt_dig b) (Nat.pow_le_pow_right (by decide) (Nat.le_max_right _ _));rw[hlen,Nat.pow_succ,Nat.mul_comm _ 4294967296,Nat.mul_assoc]at h;generalize 4294967296^(max (dig a).length (dig b).length)=P at*
 have hc:c=0:=by
  rcases Nat.eq_zero_or_pos c with e | e
  ·exact e
  ·have:P*1≤P*c:=Nat.mul_le_mul_left _ e
   rw[Nat.mul_one]at this;generalize P*c=Q at*;omega
 subst hc;rw[Nat.mul_zero]at h;omega
theorem less_step{a b l:List Nat}{i c:Nat}(ha:Digs a)(hb:Digs b)(hl:l.length=i)(hc:c≤1)(h:dval l+dval (b.take i)=dval (a.take i)+4294967296^i*c):
    1-(4294967296+a.getD i 0-b.getD i 0-c)/4294967296≤1∧dval (l++[(4294967296+a.getD i 0-b.getD i 0-c)%4294967296])+dval (b.take (i+1))=dval (a.take (i+1))+4294967296^(i+1)*(1-(4294967296+a.getD i 0-b.getD i 0-c)/4294967296):=by
 have ha1:=digs_get ha i;have hb1:=digs_get hb i;refine⟨by omega, ?_⟩;rw[dval_snoc,hl,dval_take_succ,dval_take_succ];generalize hx:a.getD i 0=x at*;generalize hy:b.getD i 0=y at*;generalize hn:4294967296+x-y-c=n
 have e1:n%4294967296+y+c=x+4294967296*(1-n/4294967296):=by omega
 have e2:4294967296^i*(n%4294967296)+4294967296^i*y+4294967296^i*c=4294967296^i*x+4294967296^(i+1)*(1-n/4294967296):=by
  rw[←Nat.mul_add,←Nat.mul_add,e1,Nat.mul_add,Nat.pow_succ,Nat.mul_assoc]
 omega
theorem less_end{a b c:Nat}{l:List Nat}(hl:Digs l)(hlen:l.length=(dig a).length)(hab:b≤a)(h:dval l+dval ((dig b).take l.length)=dval ((dig a).take l.length)+4294967296^l.length*c):dval l=a-b:=by
 have hlb:(dig b).length≤(dig a).length:=dig_length_le (Nat.lt_of_le_of_lt hab (lt_dig a));rw[List.take_of_length_le (by omega),List.take_of_length_le (by omega),dval_dig,dval_dig]at h;have h1:=dval_lt hl
 have hc:c=0:=by
  rcases Nat.eq_zero_or_pos c with e | e
  ·exact e
  ·have:4294967296^l.length*1≤4294967296^l.length*c:=Nat.mul_le_mul_left _ e
   omega
 subst hc;omega
theorem held_lt{a b i:Nat}(h:a/4294967296^(i+1)=b/4294967296^(i+1))(hd:(dig a).getD i 0<(dig b).getD i 0):a<b:=by
 rw[dig_get,dig_get]at hd;rw[Nat.pow_succ,←Nat.div_div_eq_div_mul,←Nat.div_div_eq_div_mul]at h
 have:a/4294967296^i<b/4294967296^i:=by omega
 exact Nat.lt_of_not_le fun hle=>Nat.not_lt.2 (Nat.div_le_div_right hle) this
theorem held_eq{a b i:Nat}(h:a/4294967296^(i+1)=b/4294967296^(i+1))(hd:(dig a).getD i 0=(dig b).getD i 0):a/4294967296^i=b/4294967296^i:=by
 rw[dig_get,dig_get]at hd;rw[Nat.pow_succ,←Nat.div_div_eq_div_mul,←Nat.div_div_eq_div_mul]at h;omega
theorem held_start(a b:Nat):a/4294967296^(max (dig a).length (dig b).length)=b/4294967296^(max (dig a).length (dig b).length):=by
 have h1:=lt_dig a;have h2:=lt_dig b;have h3:4294967296^(dig a).length≤4294967296^(max (dig a).length (dig b).length):=Nat.pow_le_pow_right (by decide) (by omega);have h4:4294967296^(dig b).length≤4294967296^(max (dig a).length (dig b).length):=Nat.pow_le_pow_right (by decide) (by omega);rw[Nat.div_eq_of_lt (by omega),Nat.div_eq_of_lt (by omega)]
theorem dval_set{l:List Nat}{j d:Nat}(h:j<l.length):dval (l.set j d)+4294967296^j*l.getD j 0=dval l+4294967296^j*d:=by
 induction l generalizing j with
 | nil=>simp at h
 | cons x l ih=>
  cases j with
  | zero=>simp[dval];omega
  | succ j=>
   have:=ih (j:=j) (by simpa using h);rw[List.set_cons_succ,dval,dval,List.getD_cons_succ,Nat.pow_succ]
   have e1:4294967296^j*4294967296*l.getD j 0=4294967296*(4294967296^j*l.getD j 0):=by rw[Nat.mul_comm (4294967296^j),Nat.mul_assoc]
   have e2:4294967296^j*4294967296*d=4294967296*(4294967296^j*d):=by rw[Nat.mul_comm (4294967296^j),Nat.mul_assoc]
   omega
theorem times_step{l b:List Nat}{x i k c:Nat}(hl:Digs l)(hb:Digs b)(hx:x<4294967296)(hc:c<4294967296)(hk:i+k<l.length){v0:Nat}(h:dval l+4294967296^(i+k)*c=v0+4294967296^i*(x*dval (b.take k))):
    x*b.getD k 0+l.getD (i+k) 0+c<18446744073709551616∧(x*b.getD k 0+l.getD (i+k) 0+c)/4294967296<4294967296∧
     dval (l.set (i+k) ((x*b.getD k 0+l.getD (i+k) 0+c)%4294967296))+4294967296^(i+(k+1))*((x*b.getD k 0+l.getD (i+k) 0+c)/4294967296)=v0+4294967296^i*(x*dval (b.take (k+1))):=by
 have hb1:=digs_get hb k;have hl1:=digs_get hl (i+k);have hm:x*b.getD k 0≤4294967295*4294967295:=Nat.mul_le_mul (by omega) (by omega);have hs:=dval_set (d:=(x*b.getD k 0+l.getD (i+k) 0+c)%4294967296) hk;refine⟨by omega,by omega, ?_⟩;rw[dval_take_succ];generalize hn:x*b.getD k 0+l.getD (i+k) 0+c=n at*
 have e1:4294967296^(i+k)*(n%4294967296)+4294967296^(i+(k+1))*(n/4294967296)=4294967296^(i+k)*n:=by
  rw[←Nat.add_assoc i k 1,Nat.pow_succ,Nat.mul_assoc,←Nat.mul_add];congr 1;omega
 have e2:4294967296^(i+k)*n=4294967296^(i+k)*(x*b.getD k 0)+4294967296^(i+k)*l.getD (i+k) 0+4294967296^(i+k)*c:=by rw[←hn,Nat.mul_add,Nat.mul_add]
 have e3:4294967296^i*(x*(dval (b.take k)+4294967296^k*b.getD k 0))=4294967296^i*(x*dval (b.take k))+4294967296^(i+k)*(x*b.getD k 0):=by
  rw[Nat.mul_add,Nat.mul_add,Nat.pow_add];congr 1;rw[Nat.mul_assoc,←Nat.mul_assoc x,Nat.mul_comm x,Nat.mul_assoc]
 omega
def eu:Nat→Nat×Nat→Nat×Nat
 | 0,p=>p
 | k+1,p=>eu k (p.2,p.1%p.2)
theorem eu_gcd(k:Nat)(p:Nat×Nat)(h:(eu k p).2=0):(eu k p).1=Nat.gcd p.1 p.2:=by
 induction k generalizing p with
 | zero=>
  rw[eu]at h⊢;rw[h,Nat.gcd_zero_right]
 | succ k ih=>
  rw[eu]at h⊢;rw[ih _ h]
  show Nat.gcd p.2 (p.1%p.2)=_
  by_cases e:p.2=0
  ·rw[e,Nat.mod_zero,Nat.gcd_zero_left,Nat.gcd_zero_right]
  ·rw[Nat.gcd_comm p.1 p.2,Nat.gcd_rec p.2 p.1,Nat.gcd_comm]
theorem eu_succ(k:Nat)(p:Nat×Nat):eu (k+1) p=((eu k p).2,(eu k p).1%(eu k p).2):=by
 induction k generalizing p with
 | zero=>rfl
 | succ k ih=>rw[eu,ih];rfl
theorem eu_half{k:Nat}{p:Nat×Nat}(h0:0<(eu k p).2)(h1:0<(eu (k+1) p).2):2*(eu (k+2) p).2<(eu k p).2:=by
 rw[eu_succ (k+1),eu_succ k];rw[eu_succ k]at h1;simp only at h1⊢;generalize(eu k p).2=y at*;generalize(eu k p).1=x at*;have hr:=Nat.mod_lt x h0;generalize x%y=r at*;have h2:=Nat.mod_lt y h1;have h3:=Nat.div_add_mod y r;have h4:1≤y/r:=(Nat.le_div_iff_mul_le h1).2 (by omega);have h5:r*1≤r*(y/r):=Nat.mul_le_mul_left _ h4;generalize r*(y/r)=q at*;omega
theorem eu_small{p:Nat×Nat}:∀k,(∀j,j<k→0<(eu j p).2)→(eu k p).2*2^(k/2)≤p.2∨k%2=1
 | 0,_=>.inl (by simp[eu])
 | 1,_=>.inr rfl
 | k+2,h=>by
  rcases eu_small k (fun j hj=>h j (by omega))with e | e
  ·left
   have h1:=eu_half (h k (by omega)) (h (k+1) (by omega))
   have e2:(k+2)/2=k/2+1:=by omega
   rw[e2,Nat.pow_succ]
   have:(eu (k+2) p).2*(2^(k/2)*2)=2*(eu (k+2) p).2*2^(k/2):=by
    rw[Nat.mul_comm (2^(k/2)) 2,←Nat.mul_assoc,Nat.mul_comm _ 2]
   rw[this];exact Nat.le_trans (Nat.mul_le_mul_right _ (Nat.le_of_lt h1)) e
  ·right;omega
theorem div_step{x b Q r:Nat}(hb:0<b)(h:x=Q*b+r)(hr:r<b)(t:Nat)(ht:t<2):
    (2*x+t)/b=2*Q+(if b≤2*r+t then 1 else 0)∧(2*x+t)%b=(if b≤2*r+t then 2*r+t-b else 2*r+t):=by
 have e:2*x+t=(2*r+t)+b*(2*Q):=by
  subst h;rw[Nat.mul_add,←Nat.mul_assoc,Nat.mul_comm b (2*Q)];omega
 rw[e,Nat.add_mul_div_left _ _ hb,Nat.add_mul_mod_self_left];split
 ·rename_i h1
  have e1:(2*r+t)/b=1:=by
   rw[Nat.div_eq_iff hb];omega
  have e2:(2*r+t)%b=2*r+t-b:=by
   rw[Nat.mod_eq_sub_mod h1,Nat.mod_eq_of_lt (by omega)]
  rw[e1,e2];exact⟨by omega,rfl⟩
 ·rename_i h1
  rw[Nat.div_eq_of_lt (by omega),Nat.mod_eq_of_lt (by omega)];exact⟨by omega,rfl⟩
end Go.Proofs.YtljhklblbafjkaaGreatDoor.B
namespace Go.Proofs.YtljhklblbafjkaaGreatDoor.B
theorem digs_val{l:List Nat}(h:Digs l)(i:Nat):l.getD i 0=dval l/4294967296^i%4294967296:=by
 induction l generalizing i with
 | nil=>simp[dval]
 | cons d l ih=>
  have h1:=h d (by simp)
  have hl:Digs l:=fun x hx=>h x (List.mem_cons_of_mem _ hx)
  cases i with
  | zero=>rw[List.getD_cons_zero,dval];simp;omega
  | succ i=>
   rw[List.getD_cons_succ,ih hl,dval,Nat.pow_succ,Nat.mul_comm _ 4294967296,←Nat.div_div_eq_div_mul];congr 2;omega
theorem pow32(t:Nat):(4294967296:Nat)^t=2^(32*t):=by
 rw[Nat.pow_mul]
theorem bit_dig(a i:Nat):(dig a).getD (i/32) 0/2^(i%32)%2=a/2^i%2:=by
 rw[dig_get,pow32]
 have e:2^i=2^(32*(i/32))*2^(i%32):=by rw[←Nat.pow_add,Nat.div_add_mod]
 rw[e,←Nat.div_div_eq_div_mul];generalize a/2^(32*(i/32))=x;have hj:i%32<32:=Nat.mod_lt _ (by decide);generalize i%32=j at*
 have e2:(4294967296:Nat)=2^j*2^(32-j):=by rw[←Nat.pow_add,show j+(32-j)=32 by omega]
 rw[e2,Nat.mod_mul_right_div_self]
 have e3:2^(32-j)=2*2^(31-j):=by rw[show 32-j=(31-j)+1 by omega,Nat.pow_succ,Nat.mul_comm]
 rw[e3,Nat.mod_mul_right_mod]
theorem quo_set{q:List Nat}{i m:Nat}(h:Digs q)(hv:dval q=m*2^(i+1))(hi:i/32<q.length):
    dval (q.set (i/32) (q.getD (i/32) 0|||2^(i%32)))=(2*m+1)*2^i∧Digs (q.set (i/32) (q.getD (i/32) 0|||2^(i%32))):=by
 have hj:i%32<32:=Nat.mod_lt _ (by decide);have hq:=digs_val h (i/32);have hlt:=digs_get h (i/32)
 have e:2^(i+1)=2^(32*(i/32))*2^(i%32+1):=by rw[←Nat.pow_add];congr 1;omega
 rw[hv,e,pow32,←Nat.mul_assoc,Nat.mul_comm m,Nat.mul_assoc,Nat.mul_div_cancel_left _ (Nat.pow_pos (by decide))]at hq
 have e2:(4294967296:Nat)=2^(i%32+1)*2^(31-i%32):=by rw[←Nat.pow_add,show i%32+1+(31-i%32)=32 by omega]
 have hq2:q.getD (i/32) 0=2^(i%32+1)*(m%2^(31-i%32)):=by
  rw[hq,Nat.mul_comm m,e2,Nat.mul_mod_mul_left]
 have hor:q.getD (i/32) 0|||2^(i%32)=q.getD (i/32) 0+2^(i%32):=by
  rw[hq2];exact(Nat.two_pow_add_eq_or_of_lt (Nat.pow_lt_pow_right (by decide) (by omega)) _).symm
 have hd:q.getD (i/32) 0|||2^(i%32)<4294967296:=by
  have:=Nat.or_lt_two_pow (n:=32) (x:=q.getD (i/32) 0) (y:=2^(i%32)) hlt (Nat.pow_lt_pow_right (by decide) hj);exact this
 refine⟨?_,digs_set h _ hd⟩;have hs:=dval_set (d:=q.getD (i/32) 0|||2^(i%32)) hi;rw[hor,Nat.mul_add,hv]at hs;rw[hor]
 have e3:4294967296^(i/32)*2^(i%32)=2^i:=by rw[pow32,←Nat.pow_add,Nat.div_add_mod]
 rw[e3]at hs
 have e4:(2*m+1)*2^i=m*2^(i+1)+2^i:=by rw[Nat.pow_succ,Nat.add_mul,Nat.one_mul,Nat.mul_comm 2 m,Nat.mul_assoc,Nat.mul_comm 2]
 rw[e4];generalize 4294967296^(i/32)*q.getD (i/32) 0=z at*;omega
theorem quo_keep{m i:Nat}:m*2^(i+1)=(2*m)*2^i:=by rw[Nat.pow_succ,Nat.mul_comm 2 m,Nat.mul_assoc,Nat.mul_comm 2]
end Go.Proofs.YtljhklblbafjkaaGreatDoor.B
namespace Go.Proofs.YtljhklblbafjkaaGreatDoor.B
def diffV(a b:Rt):Nat×Bool:=
 if decide (a.num<0)= !decide (b.num<0)then(a.num.natAbs*b.den.toNat+b.num.natAbs*a.den.toNat,decide (a.num<0))
 else if b.num.natAbs*a.den.toNat≤a.num.natAbs*b.den.toNat then(a.num.natAbs*b.den.toNat-b.num.natAbs*a.den.toNat,decide (a.num<0))
 else(b.num.natAbs*a.den.toNat-a.num.natAbs*b.den.toNat, !decide (b.num<0))
theorem diff_above{a b:Rt}(ha:1≤a.den)(hb:1≤b.den):(!decide ((diffV a b).1=0)&& !(diffV a b).2)=a.above b:=by
 obtain⟨an,ad⟩:=a;obtain⟨bn,bd⟩:=b;unfold diffV Rt.above;simp only at*;obtain⟨ad,rfl⟩:∃n:Nat,ad=(n:Int):=⟨ad.toNat,by omega⟩;obtain⟨bd,rfl⟩:∃n:Nat,bd=(n:Int):=⟨bd.toNat,by omega⟩;rw[Int.toNat_natCast,Int.toNat_natCast]
 have sx:∀(n:Int) (d:Nat),n*(d:Int)=if n<0 then -((n.natAbs*d:Nat):Int)else((n.natAbs*d:Nat):Int):=fun n d=>by
  split
  ·rename_i h
   rw[Int.natCast_mul,←Int.neg_mul];congr 1;omega
  ·rename_i h
   rw[Int.natCast_mul];congr 1;omega
 have e1:=sx an bd;have e2:=sx bn ad;rw[e1,e2]
 have z1:an<0→0<an.natAbs*bd:=fun h=>Nat.mul_pos (by omega) (by omega)
 have z2:bn<0→0<bn.natAbs*ad:=fun h=>Nat.mul_pos (by omega) (by omega)
 have z3:¬an<0→an.natAbs*bd=0∨0<an.natAbs*bd:=fun _=>by omega
 generalize an.natAbs*bd=x at*;generalize bn.natAbs*ad=y at*;rw[Bool.eq_iff_iff]
 by_cases h1:an<0<;>by_cases h2:bn<0<;>simp[h1,h2]<;>(try split)<;>(try simp)<;>omega
end Go.Proofs.YtljhklblbafjkaaGreatDoor.B
