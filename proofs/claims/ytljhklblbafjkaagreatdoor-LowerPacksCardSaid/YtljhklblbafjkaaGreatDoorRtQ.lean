/- Plain Lean: a number's lowest bits, its sign and its range, as the document reckons them. -/
import Derived.Test.YtljhklblbafjkaaGreatDoorPlainQ
import Derived.Test.YtljhklblbafjkaaGreatDoorVmP
open Go.Lib renaming hid→hd'
namespace Go.Proofs.YtljhklblbafjkaaGreatDoor.B
theorem low_bit(v k:Nat):(v%2^k)|||(v&&&2^k)=v%2^(k+1):=by
 apply Nat.eq_of_testBit_eq;intro j;rw[Nat.testBit_or,Nat.testBit_mod_two_pow,Nat.testBit_and,Nat.testBit_two_pow,Nat.testBit_mod_two_pow];rcases Nat.lt_trichotomy j k with h | h | h
 ·simp[h,show k≠j by omega,show j<k+1 by omega]
 ·subst h;simp
 ·simp[show¬j<k by omega,show k≠j by omega,show¬j<k+1 by omega]
theorem top_bit{v s:Nat}(h:1≤s):(v/2^(s-1))&&&1=if 2^(s-1)≤v%2^s then 1 else 0:=by
 obtain⟨m,rfl⟩:∃m,s=m+1:=⟨s-1,by omega⟩;rw[show m+1-1=m by omega,Nat.and_one_is_mod]
 have h1:v%2^(m+1)=v%2^m+2^m*(v/2^m%2):=by rw[Nat.pow_succ,Nat.mod_mul]
 have h2:v%2^m<2^m:=Nat.mod_lt _ (Nat.pow_pos (by omega))
 have h3:v/2^m%2=0∨v/2^m%2=1:=by omega
 rcases h3 with h3 | h3
 ·rw[h3]at h1⊢;rw[if_neg (by omega)]
 ·rw[h3]at h1⊢;rw[if_pos (by omega)]
theorem sign_step{lo s i:Nat}(hlo:lo<2^s)(hi:s≤i):(lo+2^i-2^s)|||2^i=lo+2^(i+1)-2^s:=by
 have hp:2^s≤2^i:=Nat.pow_le_pow_right (by omega) hi;have h:=or_add (b:=lo+2^i-2^s) (i:=i) (by omega) 1;rw[Nat.mul_one]at h;rw[Nat.or_comm,h,Nat.pow_succ];omega
theorem extend_bits{v s:Nat}(h1:1≤s)(h2:s≤64)(_hv:v<18446744073709551616):extend v s true=if 2^(s-1)≤v%2^s then v%2^s+2^64-2^s else v%2^s:=by
 by_cases h64:s=64
 ·subst h64
  have e:extend v 64 true=v%2^64:=by unfold extend;rw[if_neg (by omega),low_le (by omega)]
  rw[e]
  split<;>omega
 ·exact extend_mid h1 (by omega)
theorem ends_low{s:Nat}(h1:1≤s)(h2:s≤64):extend (2^(s-1)) s true=2^64-2^(s-1):=by
 have hp:2^s=2^(s-1)+2^(s-1):=by
  obtain⟨m,rfl⟩:∃m,s=m+1:=⟨s-1,by omega⟩;rw[Nat.pow_succ,show m+1-1=m by omega];omega
 have hpos:0<2^(s-1):=Nat.pow_pos (by omega);have h64:=pow_le64 h2
 have h64':(2:Nat)^64=18446744073709551616:=by rfl
 rw[extend_bits h1 h2 (by omega),Nat.mod_eq_of_lt (by omega),if_pos (Nat.le_refl _),hp];omega
theorem all_low{s:Nat}(h2:s≤64):18446744073709551615%2^s=2^s-1:=by
 have h64:=pow_le64 h2
 have hd:2^s ∣ 18446744073709551616:=by
  have:(18446744073709551616:Nat)=2^s*2^(64-s):=by rw[←Nat.pow_add,show s+(64-s)=64 by omega]
  exact⟨_,this⟩
 obtain⟨q,hq⟩:=hd;have hpos:0<2^s:=Nat.pow_pos (by omega)
 have hq0:0<q:=by
  rcases Nat.eq_zero_or_pos q with h | h
  ·rw[h,Nat.mul_zero]at hq;omega
  ·exact h
 have e:18446744073709551615=(2^s-1)+2^s*(q-1):=by
  obtain⟨r,rfl⟩:∃r,q=r+1:=⟨q-1,by omega⟩;rw[Nat.mul_add,Nat.mul_one]at hq;rw[show r+1-1=r by omega];omega
 rw[e,Nat.add_mul_mod_self_left,Nat.mod_eq_of_lt (by omega)]
theorem fits_plain{v s:Nat}(h1:1≤s)(h2:s≤64):fits v s false=decide (v≤2^s-1):=by
 have hpos:0<2^s:=Nat.pow_pos (by omega)
 have e:extend v s false=v%2^s:=by unfold extend;rw[if_neg (by simp),low_le h2]
 unfold fits;rw[e,show decide (1≤s∧s≤64)=true by simp;omega,Bool.true_and,Bool.eq_iff_iff];simp only[beq_iff_eq,decide_eq_true_eq];constructor
 ·intro h;have:=Nat.mod_lt v hpos;omega
 ·intro h;exact Nat.mod_eq_of_lt (by omega)
def int64(v:Nat):Int:=if v<9223372036854775808 then v else(v:Int)-18446744073709551616
theorem fits_signed{v s:Nat}(h1:1≤s)(h2:s≤64)(hv:v<18446744073709551616):
    fits v s true=(decide (int64 (2^64-2^(s-1))≤int64 v)&&decide (int64 v≤int64 (2^(s-1)-1))):=by
 have hp:2^s=2^(s-1)+2^(s-1):=by
  obtain⟨m,rfl⟩:∃m,s=m+1:=⟨s-1,by omega⟩;rw[Nat.pow_succ,show m+1-1=m by omega];omega
 have hpos:0<2^(s-1):=Nat.pow_pos (by omega);have h63:2^(s-1)≤2^63:=Nat.pow_le_pow_right (by omega) (by omega)
 have h63':(2:Nat)^63=9223372036854775808:=by rfl
 have h64':(2:Nat)^64=18446744073709551616:=by rfl
 rw[h63']at h63;unfold fits;rw[extend_bits h1 h2 hv,show decide (1≤s∧s≤64)=true by simp;omega,Bool.true_and,Bool.eq_iff_iff];simp only[beq_iff_eq,Bool.and_eq_true,decide_eq_true_eq];rw[h64',hp]
 have hq:∃q r,v=r+(2^(s-1)+2^(s-1))*q∧r<2^(s-1)+2^(s-1)∧v%(2^(s-1)+2^(s-1))=r∧(q=0∨2^(s-1)+2^(s-1)≤v):=
  ⟨v/(2^(s-1)+2^(s-1)),v%(2^(s-1)+2^(s-1)),(Nat.mod_add_div v _).symm,Nat.mod_lt _ (by omega),rfl,by
   rcases Nat.lt_or_ge v (2^(s-1)+2^(s-1))with h | h
   ·exact .inl (Nat.div_eq_of_lt h)
   ·exact .inr h⟩
 have hd:∃m,18446744073709551616=(2^(s-1)+2^(s-1))*m:=⟨2^(64-s),by rw[←hp,←Nat.pow_add,show s+(64-s)=64 by omega]⟩;obtain⟨q,r,hv1,hr,hm,hq0⟩:=hq;obtain⟨m,hm1⟩:=hd;rw[hm]
 have key:18446744073709551616-(2^(s-1)+2^(s-1))≤v→v=r+18446744073709551616-(2^(s-1)+2^(s-1)):=by
  intro hge;generalize 2^(s-1)+2^(s-1)=d at*
  have hmq:q+1=m:=by
   have h5:d*q<d*m:=by omega
   have h6:q<m:=Nat.lt_of_mul_lt_mul_left h5
   have h7:m<q+2:=by
    apply Nat.lt_of_mul_lt_mul_left (a:=d);rw[Nat.mul_add];omega
   omega
  subst hmq;rw[Nat.mul_add,Nat.mul_one]at hm1;omega
 have key2:v<2^(s-1)+2^(s-1)→v=r:=by
  intro h;rw[←hm,Nat.mod_eq_of_lt h]
 have e1:int64 (18446744073709551616-2^(s-1))= -((2^(s-1):Nat):Int):=by
  unfold int64;generalize 2^(s-1)=t at*
  split<;>omega
 have e2:int64 (2^(s-1)-1)=((2^(s-1):Nat):Int)-1:=by
  unfold int64;generalize 2^(s-1)=t at*
  split<;>omega
 have e3:(v<9223372036854775808∧int64 v=v)∨(9223372036854775808≤v∧int64 v=(v:Int)-18446744073709551616):=by
  unfold int64;split
  ·exact .inl ⟨by assumption,rfl⟩
  ·exact .inr ⟨by omega,rfl⟩
 rw[e1,e2];generalize int64 v=z at*;clear e1 e2 hm;generalize 2^(s-1)=t at*
 by_cases hlt:v<t+t
 ·have:=key2 hlt
  subst this
  by_cases hge:t≤v
  ·rw[if_pos hge];omega
  ·rw[if_neg hge];omega
 ·by_cases hge:18446744073709551616-(t+t)≤v
  ·have hv2:=key hge
   by_cases hrt:t≤r
   ·rw[if_pos hrt];omega
   ·rw[if_neg hrt];omega
  ·by_cases hrt:t≤r
   ·rw[if_pos hrt];omega
   ·rw[if_neg hrt];omega
end Go.Proofs.YtljhklblbafjkaaGreatDoor.B
namespace Go.Proofs.YtljhklblbafjkaaGreatDoor
open Go.RowKit
namespace Code
attribute [local go_sem ↓] Go.wp_at_zero Go.wp_at_succ
theorem castpow(k:Nat):((2:Int)^k)=((2^k:Nat):Int):=by push_cast;rfl
theorem pow_lt64{k:Nat}(h:k<64):2^k<18446744073709551616:=by
 have h3:(2:Nat)^k≤2^63:=Nat.pow_le_pow_right (by omega) (by omega)
 have h4:(2:Nat)^63=9223372036854775808:=by rfl
 omega
def IntOut(n:Nat)(w:World)(e:Ending)(w':World):Prop:=e= .returned (.int .u64 (n:Int))∧w=w'
set_option maxHeartbeats 1600000 in
theorem rlow_any(v n:Nat)(w:World)(hn:n≤64)(hv:v<18446744073709551616):Calls Tryz.prog 95 #[.int .u64 v,.int .i64 n] w (IntOut (v%2^n) w):=by
 have HV:=hd' hv;clear hv;go_enter Tryz.func95,Tryz.ntmps95;go_wp2_with fail
 go_loop [5,6] (fun m i=>∃k:Nat,k≤n∧i= .int .i64 k∧m= .int .u64 ((v%2^k:Nat):Int)) (fun _ i=>n-(intOf i).toNat)
 case atStart=>exact⟨0,by omega,rfl,by simp[Nat.mod_one]⟩
 case round=>
  obtain⟨k,hk,rfl,rfl⟩:=hrel
  by_cases hlt:k<n
  ·have hp:=pow_lt64 (k:=k) (by omega)
   have h1:=u64_and_nat v (2^k) HV.out hp;have h2:=u64_or_nat (v%2^k) (v&&&2^k) (Nat.lt_of_le_of_lt (Nat.mod_le _ _) HV.out) (Nat.lt_of_le_of_lt Nat.and_le_left HV.out);rw[B.low_bit]at h2;have H0:=hd' (u64w _ hp);have H1:=hd' h1;have H2:=hd' h2;have H3:=hd' (castpow k)
   have k0:(k:Int)<64:=by omega
   have k1:decide ((k:Int)<64)=true:=by simp;omega
   clear hp h1 h2;generalize v%2^k=z at*;go_wp2_with fail
   go_round
   case rel=>exact⟨k+1,by omega,by go_num,by rw[H3.out,H0.out,H1.out,H2.out]⟩
   case measure=>simp[intOf];omega
  ·obtain rfl:k=n:=by omega
   by_cases h64:k<64
   ·have k1:decide ((k:Int)<64)=true:=by simp;omega
    generalize v%2^k=z at*;go_wp2_with fail;go_ret;exact⟨rfl,rfl⟩
   ·have k1:decide ((k:Int)<64)=false:=by simp;omega
    generalize v%2^k=z at*;go_wp2_with fail;go_ret;exact⟨rfl,rfl⟩
set_option maxHeartbeats 3200000 in
theorem rextend_any(v n:Nat)(w:World)(hn1:1≤n)(hn:n≤64)(hv:v<18446744073709551616):Calls Tryz.prog 65 #[.int .u64 v,.int .i64 n,.bool true] w (IntOut (B.extend v n true) w):=by
 have HC:=hd' (rlow_any v n w hn hv);have hpn:2^(n-1)<18446744073709551616:=pow_lt64 (by omega);have hlo:v%2^n<2^n:=Nat.mod_lt _ (Nat.pow_pos (by omega))
 have h1':decide (1≤(n:Int))=true:=by simp;omega
 have h2':decide ((n:Int)≤64)=true:=by simp;omega
 have h3:(n:Int)-1<64:=by omega
 have h4:0≤(n:Int)-1:=by omega
 have hnm:(n:Int)-1=((n-1:Nat):Int):=by omega
 have hdiv:(v:Int)/(2:Int)^(n-1)=((v/2^(n-1):Nat):Int):=by rw[castpow];exact(Int.natCast_ediv _ _).symm
 have hbit:=u64_and_nat (v/2^(n-1)) 1 (Nat.lt_of_le_of_lt (Nat.div_le_self _ _) hv) (by omega);rw[B.top_bit hn1]at hbit;have hex:=B.extend_bits hn1 hn hv;have HD:=hd' hdiv;have HBT:=hd' hbit;have HN:=hd' hnm;have HLO:=hd' hlo;have HEX:=hd' hex;unfold IntOut at HC;clear hdiv hbit hnm hlo hex hv hpn;go_enter Tryz.func65,Tryz.ntmps65;go_wp2_with fail;refine HC.out.mono ?_;rintro e w1 ⟨rfl,rfl⟩
 by_cases hs:2^(n-1)≤v%2^n
 ·have HBT2:Hid (bits .and .u64 ((v/2^(n-1):Nat):Int) 1=1):=by
    have:=HBT.out;rw[if_pos hs]at this;exact this
  have HEX2:Hid (B.extend v n true=v%2^n+2^64-2^n):=by
   have:=HEX.out;rw[if_pos hs]at this;exact this
  have hq:(bits .and .u64 ((v:Int)/(2:Int)^(n-1)) 1==1)=true:=by rw[HD.out,HBT2.out];rfl
  clear hs HEX HBT;generalize v%2^n=lo at*;go_wp2_with fail
  go_loop [7,8] (fun m i=>∃k:Nat,n≤k∧k≤64∧i= .int .i64 k∧m= .int .u64 ((lo+2^k-2^n:Nat):Int)) (fun _ i=>64-(intOf i).toNat)
  case atStart=>exact⟨n,by omega,by omega,rfl,by rw[Nat.add_sub_cancel]⟩
  case round=>
   obtain⟨k,hk1,hk,rfl,rfl⟩:=hrel
   by_cases hlt:k<64
   ·have hp:=pow_lt64 (k:=k) (by omega)
    have hle:2^n≤2^k:=Nat.pow_le_pow_right (by omega) hk1;have hll:=HLO.out;have h2:=u64_or_nat (lo+2^k-2^n) (2^k) (by omega) hp;rw[B.sign_step HLO.out hk1]at h2;have H0:=hd' (u64w _ hp);have H2:=hd' h2;have H3:=hd' (castpow k)
    have k0:(k:Int)<64:=by omega
    clear hp h2 hle hll;generalize hz:lo+2^k-2^n=z at*;have HZ:=hd' hz;clear hz;go_wp2_with fail
    go_round
    case rel=>exact⟨k+1,by omega,by omega,by go_num,by rw[H3.out,H0.out,H2.out]⟩
    case measure=>simp[intOf];omega
   ·obtain rfl:k=64:=by omega
    generalize hz:lo+2^64-2^n=z at*;have HZ:=hd' hz;clear hz;go_wp2_with fail;go_ret;exact⟨ret_int (by rw[HEX2.out]),rfl⟩
 ·have HBT2:Hid (bits .and .u64 ((v/2^(n-1):Nat):Int) 1=0):=by
    have:=HBT.out;rw[if_neg hs]at this;exact this
  have HEX2:Hid (B.extend v n true=v%2^n):=by
   have:=HEX.out;rw[if_neg hs]at this;exact this
  have hq:(bits .and .u64 ((v:Int)/(2:Int)^(n-1)) 1==1)=false:=by rw[HD.out,HBT2.out];rfl
  clear hs HEX HBT;generalize v%2^n=lo at*;go_wp2_with fail;go_ret;exact⟨ret_int (by rw[HEX2.out]),rfl⟩
def EndsOut(a b:Nat)(w:World)(e:Ending)(w':World):Prop:=e= .returned (.tuple #[.int .u64 (a:Int),.int .u64 (b:Int)])∧w=w'
set_option maxHeartbeats 3200000 in
theorem rends_any(n:Nat)(s:Bool)(w:World)(hn1:1≤n)(hn:n≤64):Calls Tryz.prog 96 #[.int .i64 n,.bool s] w (EndsOut (if s then 2^64-2^(n-1)else 0) (if s then 2^(n-1)-1 else 2^n-1) w):=by
 have HC:=hd' (rlow_any 18446744073709551615 n w hn (by omega));have HC2:=hd' (rlow_any 18446744073709551615 (n-1) w (by omega) (by omega));have HC3:=hd' (rextend_any (2^(n-1)) n w hn1 hn (pow_lt64 (by omega)));rw[B.all_low hn]at HC;rw[B.all_low (show n-1≤64 by omega)]at HC2;rw[B.ends_low hn1 hn]at HC3
 have h1':decide ((n:Int)<1)=false:=by simp;omega
 have h2':decide (64<(n:Int))=false:=by simp;omega
 have h3:(n:Int)-1<64:=by omega
 have h4:0≤(n:Int)-1:=by omega
 have HN:Hid ((n:Int)-1=((n-1:Nat):Int)):=hd' (by omega);have H0:=hd' (u64w _ (pow_lt64 (k:=n-1) (by omega)));have H3:=hd' (castpow (n-1));unfold IntOut at HC HC2 HC3
 cases s with
 | false=>
  go_enter Tryz.func96,Tryz.ntmps96;go_wp2_with fail;refine HC.out.mono ?_;rintro e w1 ⟨rfl,rfl⟩;go_wp2_with fail;go_ret2;exact⟨rfl,rfl⟩
 | true=>
  go_enter Tryz.func96,Tryz.ntmps96;go_wp2_with fail;refine HC.out.mono ?_;rintro e w1 ⟨rfl,rfl⟩;go_wp2_with fail;rw[HN.out];refine HC2.out.mono ?_;rintro e w1 ⟨rfl,rfl⟩;go_wp2_with fail;rw[H3.out,H0.out];refine HC3.out.mono ?_;rintro e w1 ⟨rfl,rfl⟩;go_wp2_with fail;go_ret2;exact⟨rfl,rfl⟩
theorem conv64(v:Nat)(h:v<18446744073709551616):wrap64 (v:Int)=B.int64 v:=by
 unfold B.int64 wrap64
 split<;>omega
set_option maxHeartbeats 3200000 in
theorem rfits_any(v n:Nat)(s:Bool)(w:World)(hn1:1≤n)(hn:n≤64)(hv:v<18446744073709551616):Calls Tryz.prog 67 #[.int .u64 v,.int .i64 n,.bool s] w (FitsOut v n s w):=by
 have hc:=rends_any n s w hn1 hn;unfold EndsOut at hc
 have h1':decide ((n:Int)<1)=false:=by simp;omega
 have h2':decide (64<(n:Int))=false:=by simp;omega
 have hp:2^(n-1)<18446744073709551616:=pow_lt64 (by omega);have hpos:0<2^(n-1):=Nat.pow_pos (by omega);have hf1:=B.fits_plain (v:=v) hn1 hn;have hf2:=B.fits_signed hn1 hn hv;have HC:=hd' hc;have HF1:=hd' hf1;have HF2:=hd' hf2;have c1:=hd' (conv64 v hv);have c2:=hd' (conv64 (2^64-2^(n-1)) (by omega));have c3:=hd' (conv64 (2^(n-1)-1) (by omega));clear hc hf1 hf2 hp hpos;unfold FitsOut
 cases s with
 | false=>
  simp only[Bool.false_eq_true,if_false]at HC;rw[HF1.out];generalize 2^n-1=hi at*;go_enter Tryz.func67,Tryz.ntmps67;go_wp2_with fail;refine HC.out.mono ?_;rintro e w1 ⟨rfl,rfl⟩;go_wp2_with fail;go_ret;exact⟨ret_bool (by first | rfl | (rw[Bool.eq_iff_iff];simp)),rfl⟩
 | true=>
  simp only[if_true]at HC;rw[HF2.out];generalize 2^64-2^(n-1)=lo at*;generalize 2^(n-1)-1=hi at*
  by_cases ha:B.int64 lo≤B.int64 v
  ·have q1:decide (wrap64 (lo:Int)≤wrap64 (v:Int))=true:=by rw[c1.out,c2.out];simpa using ha
   have HA:Hid (decide (B.int64 lo≤B.int64 v)=true):=hd' (by simpa using ha);clear ha;go_enter Tryz.func67,Tryz.ntmps67;go_wp2_with fail;refine HC.out.mono ?_;rintro e w1 ⟨rfl,rfl⟩;go_wp2_with fail;go_ret;exact⟨ret_bool (by rw[c1.out,c3.out,HA.out,Bool.true_and]),rfl⟩
  ·have q1:decide (wrap64 (lo:Int)≤wrap64 (v:Int))=false:=by rw[c1.out,c2.out];simpa using ha
   have HA:Hid (decide (B.int64 lo≤B.int64 v)=false):=hd' (by simpa using ha);clear ha;go_enter Tryz.func67,Tryz.ntmps67;go_wp2_with fail;refine HC.out.mono ?_;rintro e w1 ⟨rfl,rfl⟩;go_wp2_with fail;go_ret;exact⟨ret_bool (by rw[HA.out,Bool.false_and]),rfl⟩
end Code
end Go.Proofs.YtljhklblbafjkaaGreatDoor
