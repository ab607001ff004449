/- Plain Lean: a number's lowest bits, its sign and its range, as the document reckons them. -/
/- The document's answer for layer 10: a number's lowest bits, its sign, its ends, whether it fits. -/
/- The document's answer for layer 14: the number of some bytes; bits laid into some bytes of a copy. -/
/- The document's answer for layer 14: a run behind one instruction: what lies in memory. -/
/- The document's answer for layer 14: what an operation makes of registers. -/
/- The document's answer for layer 14: a run behind one instruction: the walk. -/
/- The document's answer for layer 14: a run behind one instruction: the walk. -/
/- The document's answer for layer 14: what comes of a run. -/
/- VmRuns, as a contract: the law of every input, without card. -/
import Derived.Test.YtmpeipdeablkdaaGreatDoorPlainV
import Derived.Test.YtmpeipdeablkdaaGreatDoorVmP
import Derived.Test.YtmpeipdeablkdaaGreatDoorRunA
import Derived.StillTailTactics
import Derived.Test.YtmpeipdeablkdaaGreatDoorRowB
import Derived.Deep.Cut
import Derived.Deep.CutRange
import Derived.Deep.CutBlock
import Derived.Test.YtmpeipdeablkdaaGreatDoorRefW
import Derived.Test.YtmpeipdeablkdaaGreatDoorVmQ
import Derived.Laws.ResultCell
import Derived.Test.YtmpeipdeablkdaaGreatDoorKitA
import Derived.Test.YtmpeipdeablkdaaGreatDoorMore
import Derived.Test.YtmpeipdeablkdaaGreatDoorErrQ
namespace Go.Proofs.YtmpeipdeablkdaaGreatDoor.B

theorem low_bit (v k : Nat) : (v % 2 ^ k) ||| (v &&& 2 ^ k) = v % 2 ^ (k + 1) := by
 apply Nat.eq_of_testBit_eq
 intro j
 rw [Nat.testBit_or, Nat.testBit_mod_two_pow, Nat.testBit_and, Nat.testBit_two_pow, Nat.testBit_mod_two_pow]
 rcases Nat.lt_trichotomy j k with h | h | h
 ·simp [h, show k ≠ j by omega, show j < k + 1 by omega]
 ·subst h; simp
 ·simp [show ¬ j < k by omega, show k ≠ j by omega, show ¬ j < k + 1 by omega]

theorem top_bit {v s : Nat} (h : 1 ≤ s) : (v / 2 ^ (s - 1)) &&& 1 = if 2 ^ (s - 1) ≤ v % 2 ^ s then 1 else 0 := by
 obtain ⟨m, rfl⟩ : ∃ m, s = m + 1 := ⟨s - 1, by omega⟩
 rw [show m + 1 - 1 = m by omega, Nat.and_one_is_mod]
 have h1 : v % 2 ^ (m + 1) = v % 2 ^ m + 2 ^ m * (v / 2 ^ m % 2) := by rw [Nat.pow_succ, Nat.mod_mul]
 have h2 : v % 2 ^ m < 2 ^ m := Nat.mod_lt _ (Nat.pow_pos (by omega))
 have h3 : v / 2 ^ m % 2 = 0 ∨ v / 2 ^ m % 2 = 1 := by omega
 rcases h3 with h3 | h3
 ·rw [h3] at h1 ⊢; rw [if_neg (by omega)]
 ·rw [h3] at h1 ⊢; rw [if_pos (by omega)]

theorem sign_step {lo s i : Nat} (hlo : lo < 2 ^ s) (hi : s ≤ i) : (lo + 2 ^ i - 2 ^ s) ||| 2 ^ i = lo + 2 ^ (i + 1) - 2 ^ s := by
 have hp : 2 ^ s ≤ 2 ^ i := Nat.pow_le_pow_right (by omega) hi
 have h := or_add (b := lo + 2 ^ i - 2 ^ s) (i := i) (by omega) 1
 rw [Nat.mul_one] at h
 rw [Nat.or_comm, h, Nat.pow_succ]
 omega

/-- a sign, as the document reckons it: behind the loop -/
theorem extend_bits {v s : Nat} (h1 : 1 ≤ s) (h2 : s ≤ 64) (_hv : v < 18446744073709551616) : extend v s true = if 2 ^ (s - 1) ≤ v % 2 ^ s then v % 2 ^ s + 2 ^ 64 - 2 ^ s else v % 2 ^ s := by
 by_cases h64 : s = 64
 ·subst h64
  have e : extend v 64 true = v % 2 ^ 64 := by unfold extend; rw [if_neg (by omega), low_le (by omega)]
  rw [e]
  split <;> omega
 ·exact extend_mid h1 (by omega)

theorem ends_low {s : Nat} (h1 : 1 ≤ s) (h2 : s ≤ 64) : extend (2 ^ (s - 1)) s true = 2 ^ 64 - 2 ^ (s - 1) := by
 have hp : 2 ^ s = 2 ^ (s - 1) + 2 ^ (s - 1) := by
  obtain ⟨m, rfl⟩ : ∃ m, s = m + 1 := ⟨s - 1, by omega⟩
  rw [Nat.pow_succ, show m + 1 - 1 = m by omega]; omega
 have hpos : 0 < 2 ^ (s - 1) := Nat.pow_pos (by omega)
 have h64 := pow_le64 h2
 have h64' : (2 : Nat) ^ 64 = 18446744073709551616 := by rfl
 rw [extend_bits h1 h2 (by omega), Nat.mod_eq_of_lt (by omega), if_pos (Nat.le_refl _), hp]
 omega

theorem all_low {s : Nat} (h2 : s ≤ 64) : 18446744073709551615 % 2 ^ s = 2 ^ s - 1 := by
 have h64 := pow_le64 h2
 have hd : 2 ^ s ∣ 18446744073709551616 := by
  have : (18446744073709551616 : Nat) = 2 ^ s * 2 ^ (64 - s) := by rw [← Nat.pow_add, show s + (64 - s) = 64 by omega]
  exact ⟨_, this⟩
 obtain ⟨q, hq⟩ := hd
 have hpos : 0 < 2 ^ s := Nat.pow_pos (by omega)
 have hq0 : 0 < q := by
  rcases Nat.eq_zero_or_pos q with h | h
  ·rw [h, Nat.mul_zero] at hq; omega
  ·exact h
 have e : 18446744073709551615 = (2 ^ s - 1) + 2 ^ s * (q - 1) := by
  obtain ⟨r, rfl⟩ : ∃ r, q = r + 1 := ⟨q - 1, by omega⟩
  rw [Nat.mul_add, Nat.mul_one] at hq
  rw [show r + 1 - 1 = r by omega]
  omega
 rw [e, Nat.add_mul_mod_self_left, Nat.mod_eq_of_lt (by omega)]

theorem fits_plain {v s : Nat} (h1 : 1 ≤ s) (h2 : s ≤ 64) : fits v s false = decide (v ≤ 2 ^ s - 1) := by
 have hpos : 0 < 2 ^ s := Nat.pow_pos (by omega)
 have e : extend v s false = v % 2 ^ s := by unfold extend; rw [if_neg (by simp), low_le h2]
 unfold fits
 rw [e, show decide (1 ≤ s ∧ s ≤ 64) = true by simp; omega, Bool.true_and, Bool.eq_iff_iff]
 simp only [beq_iff_eq, decide_eq_true_eq]
 constructor
 ·intro h; have := Nat.mod_lt v hpos; omega
 ·intro h; exact Nat.mod_eq_of_lt (by omega)

/-- a number of 64 bits, with its sign -/
def int64 (v : Nat) : Int := if v < 9223372036854775808 then v else (v : Int) - 18446744073709551616

theorem fits_signed {v s : Nat} (h1 : 1 ≤ s) (h2 : s ≤ 64) (hv : v < 18446744073709551616) :
    fits v s true = (decide (int64 (2 ^ 64 - 2 ^ (s - 1)) ≤ int64 v) && decide (int64 v ≤ int64 (2 ^ (s - 1) - 1))) := by
 have hp : 2 ^ s = 2 ^ (s - 1) + 2 ^ (s - 1) := by
  obtain ⟨m, rfl⟩ : ∃ m, s = m + 1 := ⟨s - 1, by omega⟩
  rw [Nat.pow_succ, show m + 1 - 1 = m by omega]; omega
 have hpos : 0 < 2 ^ (s - 1) := Nat.pow_pos (by omega)
 have h63 : 2 ^ (s - 1) ≤ 2 ^ 63 := Nat.pow_le_pow_right (by omega) (by omega)
 have h63' : (2 : Nat) ^ 63 = 9223372036854775808 := by rfl
 have h64' : (2 : Nat) ^ 64 = 18446744073709551616 := by rfl
 rw [h63'] at h63
 unfold fits
 rw [extend_bits h1 h2 hv, show decide (1 ≤ s ∧ s ≤ 64) = true by simp; omega, Bool.true_and, Bool.eq_iff_iff]
 simp only [beq_iff_eq, Bool.and_eq_true, decide_eq_true_eq]
 rw [h64', hp]
 -- with t for 2 ^ (s - 1), the number is r + (t + t) * q
 have hq : ∃ q r, v = r + (2 ^ (s - 1) + 2 ^ (s - 1)) * q ∧ r < 2 ^ (s - 1) + 2 ^ (s - 1) ∧ v % (2 ^ (s - 1) + 2 ^ (s - 1)) = r ∧ (q = 0 ∨ 2 ^ (s - 1) + 2 ^ (s - 1) ≤ v) :=
  ⟨v / (2 ^ (s - 1) + 2 ^ (s - 1)), v % (2 ^ (s - 1) + 2 ^ (s - 1)), (Nat.mod_add_div v _).symm, Nat.mod_lt _ (by omega), rfl, by
   rcases Nat.lt_or_ge v (2 ^ (s - 1) + 2 ^ (s - 1)) with h | h
   ·exact .inl (Nat.div_eq_of_lt h)
   ·exact .inr h⟩
 have hd : ∃ m, 18446744073709551616 = (2 ^ (s - 1) + 2 ^ (s - 1)) * m := ⟨2 ^ (64 - s), by rw [← hp, ← Nat.pow_add, show s + (64 - s) = 64 by omega]⟩
 obtain ⟨q, r, hv1, hr, hm, hq0⟩ := hq
 obtain ⟨m, hm1⟩ := hd
 rw [hm]
 have key : 18446744073709551616 - (2 ^ (s - 1) + 2 ^ (s - 1)) ≤ v → v = r + 18446744073709551616 - (2 ^ (s - 1) + 2 ^ (s - 1)) := by
  intro hge
  generalize 2 ^ (s - 1) + 2 ^ (s - 1) = d at *
  have hmq : q + 1 = m := by
   have h5 : d * q < d * m := by omega
   have h6 : q < m := Nat.lt_of_mul_lt_mul_left h5
   have h7 : m < q + 2 := by
    apply Nat.lt_of_mul_lt_mul_left (a := d)
    rw [Nat.mul_add]
    omega
   omega
  subst hmq
  rw [Nat.mul_add, Nat.mul_one] at hm1
  omega
 have key2 : v < 2 ^ (s - 1) + 2 ^ (s - 1) → v = r := by
  intro h; rw [← hm, Nat.mod_eq_of_lt h]
 have e1 : int64 (18446744073709551616 - 2 ^ (s - 1)) = -((2 ^ (s - 1) : Nat) : Int) := by
  unfold int64
  generalize 2 ^ (s - 1) = t at *
  split <;> omega
 have e2 : int64 (2 ^ (s - 1) - 1) = ((2 ^ (s - 1) : Nat) : Int) - 1 := by
  unfold int64
  generalize 2 ^ (s - 1) = t at *
  split <;> omega
 have e3 : (v < 9223372036854775808 ∧ int64 v = v) ∨ (9223372036854775808 ≤ v ∧ int64 v = (v : Int) - 18446744073709551616) := by
  unfold int64
  split
  ·exact .inl ⟨by assumption, rfl⟩
  ·exact .inr ⟨by omega, rfl⟩
 rw [e1, e2]
 generalize int64 v = z at *
 clear e1 e2 hm
 generalize 2 ^ (s - 1) = t at *
 by_cases hlt : v < t + t
 ·have := key2 hlt
  subst this
  by_cases hge : t ≤ v
  ·rw [if_pos hge]; omega
  ·rw [if_neg hge]; omega
 ·by_cases hge : 18446744073709551616 - (t + t) ≤ v
  ·have hv2 := key hge
   by_cases hrt : t ≤ r
   ·rw [if_pos hrt]; omega
   ·rw [if_neg hrt]; omega
  ·by_cases hrt : t ≤ r
   ·rw [if_pos hrt]; omega
   ·rw [if_neg hrt]; omega

end Go.Proofs.YtmpeipdeablkdaaGreatDoor.B

namespace Go.Proofs.YtmpeipdeablkdaaGreatDoor
open Go.RowKit
namespace Code
attribute [local go_sem ↓] Go.wp_at_zero Go.wp_at_succ

theorem castpow (k : Nat) : ((2 : Int) ^ k) = ((2 ^ k : Nat) : Int) := by push_cast; rfl

theorem pow_lt64 {k : Nat} (h : k < 64) : 2 ^ k < 18446744073709551616 := by
 have h3 : (2 : Nat) ^ k ≤ 2 ^ 63 := Nat.pow_le_pow_right (by omega) (by omega)
 have h4 : (2 : Nat) ^ 63 = 9223372036854775808 := by rfl
 omega

def IntOut (n : Nat) (w : World) (e : Ending) (w' : World) : Prop := e = .returned (.int .u64 (n : Int)) ∧ w = w'

set_option maxHeartbeats 1600000 in
theorem rlow_any (v n : Nat) (w : World) (hn : n ≤ 64) (hv : v < 18446744073709551616) : Calls Tryz.prog 233 #[.int .u64 v, .int .i64 n] w (IntOut (v % 2 ^ n) w) := by
 have HV := Lib.hid hv
 clear hv
 go_enter Tryz.func233, Tryz.ntmps233
 go_wp2_with fail
 go_loop [5, 6] (fun m i => ∃ k : Nat, k ≤ n ∧ i = .int .i64 k ∧ m = .int .u64 ((v % 2 ^ k : Nat) : Int)) (fun _ i => n - (intOf i).toNat)
 case atStart => exact ⟨0, by omega, rfl, by simp [Nat.mod_one]⟩
 case round =>
  obtain ⟨k, hk, rfl, rfl⟩ := hrel
  by_cases hlt : k < n
  ·have hp := pow_lt64 (k := k) (by omega)
   have h1 := u64_and_nat v (2 ^ k) HV.out hp
   have h2 := u64_or_nat (v % 2 ^ k) (v &&& 2 ^ k) (Nat.lt_of_le_of_lt (Nat.mod_le _ _) HV.out) (Nat.lt_of_le_of_lt Nat.and_le_left HV.out)
   rw [B.low_bit] at h2
   have H0 := Lib.hid (u64w _ hp)
   have H1 := Lib.hid h1
   have H2 := Lib.hid h2
   have H3 := Lib.hid (castpow k)
   have k0 : (k : Int) < 64 := by omega
   have k1 : decide ((k : Int) < 64) = true := by simp; omega
   clear hp h1 h2
   generalize v % 2 ^ k = z at *
   go_wp2_with fail
   go_round
   case rel => exact ⟨k + 1, by omega, by go_num, by rw [H3.out, H0.out, H1.out, H2.out]⟩
   case measure => simp [intOf]; omega
  ·obtain rfl : k = n := by omega
   by_cases h64 : k < 64
   ·have k1 : decide ((k : Int) < 64) = true := by simp; omega
    generalize v % 2 ^ k = z at *
    go_wp2_with fail
    go_ret
    exact ⟨rfl, rfl⟩
   ·have k1 : decide ((k : Int) < 64) = false := by simp; omega
    generalize v % 2 ^ k = z at *
    go_wp2_with fail
    go_ret
    exact ⟨rfl, rfl⟩

set_option maxHeartbeats 3200000 in
theorem rextend_any (v n : Nat) (w : World) (hn1 : 1 ≤ n) (hn : n ≤ 64) (hv : v < 18446744073709551616) : Calls Tryz.prog 202 #[.int .u64 v, .int .i64 n, .bool true] w (IntOut (B.extend v n true) w) := by
 have HC := Lib.hid (rlow_any v n w hn hv)
 have hpn : 2 ^ (n - 1) < 18446744073709551616 := pow_lt64 (by omega)
 have hlo : v % 2 ^ n < 2 ^ n := Nat.mod_lt _ (Nat.pow_pos (by omega))
 have h1' : decide (1 ≤ (n : Int)) = true := by simp; omega
 have h2' : decide ((n : Int) ≤ 64) = true := by simp; omega
 have h3 : (n : Int) - 1 < 64 := by omega
 have h4 : 0 ≤ (n : Int) - 1 := by omega
 have hnm : (n : Int) - 1 = ((n - 1 : Nat) : Int) := by omega
 have hdiv : (v : Int) / (2 : Int) ^ (n - 1) = ((v / 2 ^ (n - 1) : Nat) : Int) := by rw [castpow]; exact (Int.natCast_ediv _ _).symm
 have hbit := u64_and_nat (v / 2 ^ (n - 1)) 1 (Nat.lt_of_le_of_lt (Nat.div_le_self _ _) hv) (by omega)
 rw [B.top_bit hn1] at hbit
 have hex := B.extend_bits hn1 hn hv
 have HD := Lib.hid hdiv
 have HBT := Lib.hid hbit
 have HN := Lib.hid hnm
 have HLO := Lib.hid hlo
 have HEX := Lib.hid hex
 unfold IntOut at HC
 clear hdiv hbit hnm hlo hex hv hpn
 go_enter Tryz.func202, Tryz.ntmps202
 go_wp2_with fail
 refine HC.out.mono ?_
 rintro e w1 ⟨rfl, rfl⟩
 by_cases hs : 2 ^ (n - 1) ≤ v % 2 ^ n
 ·have HBT2 : Hid (bits .and .u64 ((v / 2 ^ (n - 1) : Nat) : Int) 1 = 1) := by
    have := HBT.out
    rw [if_pos hs] at this
    exact this
  have HEX2 : Hid (B.extend v n true = v % 2 ^ n + 2 ^ 64 - 2 ^ n) := by
   have := HEX.out
   rw [if_pos hs] at this
   exact this
  have hq : (bits .and .u64 ((v : Int) / (2 : Int) ^ (n - 1)) 1 == 1) = true := by rw [HD.out, HBT2.out]; rfl
  clear hs HEX HBT
  generalize v % 2 ^ n = lo at *
  go_wp2_with fail
  go_loop [7, 8] (fun m i => ∃ k : Nat, n ≤ k ∧ k ≤ 64 ∧ i = .int .i64 k ∧ m = .int .u64 ((lo + 2 ^ k - 2 ^ n : Nat) : Int)) (fun _ i => 64 - (intOf i).toNat)
  case atStart => exact ⟨n, by omega, by omega, rfl, by rw [Nat.add_sub_cancel]⟩
  case round =>
   obtain ⟨k, hk1, hk, rfl, rfl⟩ := hrel
   by_cases hlt : k < 64
   ·have hp := pow_lt64 (k := k) (by omega)
    have hle : 2 ^ n ≤ 2 ^ k := Nat.pow_le_pow_right (by omega) hk1
    have hll := HLO.out
    have h2 := u64_or_nat (lo + 2 ^ k - 2 ^ n) (2 ^ k) (by omega) hp
    rw [B.sign_step HLO.out hk1] at h2
    have H0 := Lib.hid (u64w _ hp)
    have H2 := Lib.hid h2
    have H3 := Lib.hid (castpow k)
    have k0 : (k : Int) < 64 := by omega
    clear hp h2 hle hll
    generalize hz : lo + 2 ^ k - 2 ^ n = z at *
    have HZ := Lib.hid hz
    clear hz
    go_wp2_with fail
    go_round
    case rel => exact ⟨k + 1, by omega, by omega, by go_num, by rw [H3.out, H0.out, H2.out]⟩
    case measure => simp [intOf]; omega
   ·obtain rfl : k = 64 := by omega
    generalize hz : lo + 2 ^ 64 - 2 ^ n = z at *
    have HZ := Lib.hid hz
    clear hz
    go_wp2_with fail
    go_ret
    exact ⟨ret_int (by rw [HEX2.out]), rfl⟩
 ·have HBT2 : Hid (bits .and .u64 ((v / 2 ^ (n - 1) : Nat) : Int) 1 = 0) := by
    have := HBT.out
    rw [if_neg hs] at this
    exact this
  have HEX2 : Hid (B.extend v n true = v % 2 ^ n) := by
   have := HEX.out
   rw [if_neg hs] at this
   exact this
  have hq : (bits .and .u64 ((v : Int) / (2 : Int) ^ (n - 1)) 1 == 1) = false := by rw [HD.out, HBT2.out]; rfl
  clear hs HEX HBT
  generalize v % 2 ^ n = lo at *
  go_wp2_with fail
  go_ret
  exact ⟨ret_int (by rw [HEX2.out]), rfl⟩

def EndsOut (a b : Nat) (w : World) (e : Ending) (w' : World) : Prop := e = .returned (.tuple #[.int .u64 (a : Int), .int .u64 (b : Int)]) ∧ w = w'

set_option maxHeartbeats 3200000 in
theorem rends_any (n : Nat) (s : Bool) (w : World) (hn1 : 1 ≤ n) (hn : n ≤ 64) : Calls Tryz.prog 201 #[.int .i64 n, .bool s] w (EndsOut (if s then 2 ^ 64 - 2 ^ (n - 1) else 0) (if s then 2 ^ (n - 1) - 1 else 2 ^ n - 1) w) := by
 have HC := Lib.hid (rlow_any 18446744073709551615 n w hn (by omega))
 have HC2 := Lib.hid (rlow_any 18446744073709551615 (n - 1) w (by omega) (by omega))
 have HC3 := Lib.hid (rextend_any (2 ^ (n - 1)) n w hn1 hn (pow_lt64 (by omega)))
 rw [B.all_low hn] at HC
 rw [B.all_low (show n - 1 ≤ 64 by omega)] at HC2
 rw [B.ends_low hn1 hn] at HC3
 have h1' : decide ((n : Int) < 1) = false := by simp; omega
 have h2' : decide (64 < (n : Int)) = false := by simp; omega
 have h3 : (n : Int) - 1 < 64 := by omega
 have h4 : 0 ≤ (n : Int) - 1 := by omega
 have HN : Hid ((n : Int) - 1 = ((n - 1 : Nat) : Int)) := Lib.hid (by omega)
 have H0 := Lib.hid (u64w _ (pow_lt64 (k := n - 1) (by omega)))
 have H3 := Lib.hid (castpow (n - 1))
 unfold IntOut at HC HC2 HC3
 cases s with
 | false =>
  go_enter Tryz.func201, Tryz.ntmps201
  go_wp2_with fail
  refine HC.out.mono ?_
  rintro e w1 ⟨rfl, rfl⟩
  go_wp2_with fail
  go_ret2
  exact ⟨rfl, rfl⟩
 | true =>
  go_enter Tryz.func201, Tryz.ntmps201
  go_wp2_with fail
  refine HC.out.mono ?_
  rintro e w1 ⟨rfl, rfl⟩
  go_wp2_with fail
  rw [HN.out]
  refine HC2.out.mono ?_
  rintro e w1 ⟨rfl, rfl⟩
  go_wp2_with fail
  rw [H3.out, H0.out]
  refine HC3.out.mono ?_
  rintro e w1 ⟨rfl, rfl⟩
  go_wp2_with fail
  go_ret2
  exact ⟨rfl, rfl⟩

theorem conv64 (v : Nat) (h : v < 18446744073709551616) : wrap64 (v : Int) = B.int64 v := by
 unfold B.int64 wrap64
 split <;> omega

set_option maxHeartbeats 3200000 in
theorem rfits_any (v n : Nat) (s : Bool) (w : World) (hn1 : 1 ≤ n) (hn : n ≤ 64) (hv : v < 18446744073709551616) : Calls Tryz.prog 161 #[.int .u64 v, .int .i64 n, .bool s] w (FitsOut v n s w) := by
 have hc := rends_any n s w hn1 hn
 unfold EndsOut at hc
 have h1' : decide ((n : Int) < 1) = false := by simp; omega
 have h2' : decide (64 < (n : Int)) = false := by simp; omega
 have hp : 2 ^ (n - 1) < 18446744073709551616 := pow_lt64 (by omega)
 have hpos : 0 < 2 ^ (n - 1) := Nat.pow_pos (by omega)
 have hf1 := B.fits_plain (v := v) hn1 hn
 have hf2 := B.fits_signed hn1 hn hv
 have HC := Lib.hid hc
 have HF1 := Lib.hid hf1
 have HF2 := Lib.hid hf2
 have c1 := Lib.hid (conv64 v hv)
 have c2 := Lib.hid (conv64 (2 ^ 64 - 2 ^ (n - 1)) (by omega))
 have c3 := Lib.hid (conv64 (2 ^ (n - 1) - 1) (by omega))
 clear hc hf1 hf2 hp hpos
 unfold FitsOut
 cases s with
 | false =>
  simp only [Bool.false_eq_true, if_false] at HC
  rw [HF1.out]
  generalize 2 ^ n - 1 = hi at *
  go_enter Tryz.func161, Tryz.ntmps161
  go_wp2_with fail
  refine HC.out.mono ?_
  rintro e w1 ⟨rfl, rfl⟩
  go_wp2_with fail
  go_ret
  exact ⟨ret_bool (by first | rfl | (rw [Bool.eq_iff_iff]; simp)), rfl⟩
 | true =>
  simp only [if_true] at HC
  rw [HF2.out]
  generalize 2 ^ 64 - 2 ^ (n - 1) = lo at *
  generalize 2 ^ (n - 1) - 1 = hi at *
  by_cases ha : B.int64 lo ≤ B.int64 v
  ·have q1 : decide (wrap64 (lo : Int) ≤ wrap64 (v : Int)) = true := by rw [c1.out, c2.out]; simpa using ha
   have HA : Hid (decide (B.int64 lo ≤ B.int64 v) = true) := Lib.hid (by simpa using ha)
   clear ha
   go_enter Tryz.func161, Tryz.ntmps161
   go_wp2_with fail
   refine HC.out.mono ?_
   rintro e w1 ⟨rfl, rfl⟩
   go_wp2_with fail
   go_ret
   exact ⟨ret_bool (by rw [c1.out, c3.out, HA.out, Bool.true_and]), rfl⟩
  ·have q1 : decide (wrap64 (lo : Int) ≤ wrap64 (v : Int)) = false := by rw [c1.out, c2.out]; simpa using ha
   have HA : Hid (decide (B.int64 lo ≤ B.int64 v) = false) := Lib.hid (by simpa using ha)
   clear ha
   go_enter Tryz.func161, Tryz.ntmps161
   go_wp2_with fail
   refine HC.out.mono ?_
   rintro e w1 ⟨rfl, rfl⟩
   go_wp2_with fail
   go_ret
   exact ⟨ret_bool (by rw [HA.out, Bool.false_and]), rfl⟩

end Code
end Go.Proofs.YtmpeipdeablkdaaGreatDoor

namespace Go.Proofs.YtmpeipdeablkdaaGreatDoor
open Go.RowKit
namespace Code
open Go.Proofs.YtmpeipdeablkdaaGreatDoor.Code.One
attribute [local go_sem ↓] Go.wp_at_zero Go.wp_at_succ

set_option maxHeartbeats 3200000 in
theorem rload_any (a : Option Addr) (pn pc b n : Nat) (pay : List Nat) (big : Bool) (w : World) (hp : ListAt w a pn (pay.map u8V)) (hB : B.Bytes pay) (h8 : n ≤ 8) (hbn : b + n ≤ pn) (hp8 : pn ≤ 8) :
    Calls Tryz.prog 159 #[.slice a pn pc, .int .i64 b, .int .i64 n, .bool big] w (IntOut (if big then B.loadB ((pay.drop b).take n) else B.loadL ((pay.drop b).take n)) w) := by
 have hpl : pn = pay.length := by have := hp.len; simpa using this
 have hl : n = ((pay.drop b).take n).length := by rw [List.length_take, List.length_drop]; omega
 have hB2 : B.Bytes ((pay.drop b).take n) := B.bytes_take (B.bytes_drop hB b) n
 have hc0 : ∀ (k x : Nat), ((pay.drop b).take n)[k]? = some x → ∃ g off, a = some ⟨g, off, none⟩ ∧ w.cell? ⟨g, off + (b + k), none⟩ = some (.int .u8 (x : Int)) := by
  intro k x hx
  rw [List.getElem?_take] at hx
  split at hx
  ·rw [List.getElem?_drop] at hx
   obtain ⟨g, off, e, _, hc⟩ := hp.at_ (b + k) (u8V x) (by rw [List.getElem?_map, hx]; rfl)
   exact ⟨g, off, e, hc⟩
  ·cases hx
 generalize (pay.drop b).take n = l at *
 have HC := Lib.hid hc0
 have HL := Lib.hid hl
 have HBY := Lib.hid hB2
 unfold IntOut
 clear hc0 hl hB hB2 hpl hp
 cases big with
 | false =>
  go_enter Tryz.func159, Tryz.ntmps159
  go_wp2_with fail
  go_loop [9, 10] (fun m i => ∃ k : Nat, k ≤ n ∧ i = .int .i64 k ∧ m = .int .u64 (B.loadL (l.take k) : Nat)) (fun _ i => n - (intOf i).toNat)
  case atStart => exact ⟨0, by omega, rfl, rfl⟩
  case round =>
   obtain ⟨k, hk, rfl, rfl⟩ := hrel
   by_cases hlt : k < n
   ·have hx : l[k]? = some (l[k]'(by have := HL.out; omega)) := List.getElem?_eq_getElem _
    generalize l[k]'(by have := HL.out; omega) = x at hx
    obtain ⟨g, off, rfl, hc⟩ := HC.out k x hx
    rw [show off + (b + k) = off + ((b : Nat) + k) from rfl] at hc
    have hx8 : x < 256 := HBY.out x (List.mem_of_getElem? hx)
    have ht := B.take_succ_get hx
    have hbt := B.bytes_take HBY.out k
    have hlen : (l.take k).length = k := by rw [List.length_take]; have := HL.out; omega
    have hor := B.loadL_or (l.take k) x hbt
    have hll := B.loadL_lt _ hbt
    rw [← ht, hlen] at hor
    rw [hlen] at hll
    have hp := B.pow_le64 (k := 8 * k) (by omega)
    have hp8 := B.pow_le64 (k := 8 * k + 8) (by omega)
    rw [Nat.pow_add] at hp8
    have hmul : x * 2 ^ (8 * k) < 18446744073709551616 := by
     have h2 : x * 2 ^ (8 * k) < 256 * 2 ^ (8 * k) := Nat.mul_lt_mul_of_pos_right hx8 (Nat.pow_pos (by omega))
     omega
    have hcast : (x : Int) * (2 : Int) ^ (8 * k) = ((x * 2 ^ (8 * k) : Nat) : Int) := by push_cast; rfl
    have h1 := u64w _ hmul
    have h2 := u64_or_nat (B.loadL (l.take k)) (x * 2 ^ (8 * k)) (by omega) hmul
    have hx64 := u64w x (by omega)
    rw [hor] at h2
    have H1 := Lib.hid h1
    have H2 := Lib.hid h2
    have H3 := Lib.hid hcast
    have i0 : (0 : Int) ≤ (b : Int) + (k : Int) := by omega
    have i1 : (b : Int) + (k : Int) < (pn : Int) := by omega
    clear hx ht hbt hlen hor hll hp hp8 hmul hcast h1 h2
    generalize B.loadL (l.take k) = z at *
    go_wp2_with fail
    go_round
    case rel => exact ⟨k + 1, by omega, by go_num, by rw [H3.out, H1.out, H2.out]⟩
    case measure => simp [intOf]; omega
   ·obtain rfl : k = n := by omega
    go_wp2
    go_ret
    exact ⟨ret_int (by rw [List.take_of_length_le (by have := HL.out; omega)]), rfl⟩
 | true =>
  go_enter Tryz.func159, Tryz.ntmps159
  go_wp2_with fail
  go_loop [9, 10] (fun m i => ∃ k : Nat, k ≤ n ∧ i = .int .i64 k ∧ m = .int .u64 (B.loadB (l.take k) : Nat)) (fun _ i => n - (intOf i).toNat)
  case atStart => exact ⟨0, by omega, rfl, rfl⟩
  case round =>
   obtain ⟨k, hk, rfl, rfl⟩ := hrel
   by_cases hlt : k < n
   ·have hx : l[k]? = some (l[k]'(by have := HL.out; omega)) := List.getElem?_eq_getElem _
    generalize l[k]'(by have := HL.out; omega) = x at hx
    obtain ⟨g, off, rfl, hc⟩ := HC.out k x hx
    have hx8 : x < 256 := HBY.out x (List.mem_of_getElem? hx)
    have ht := B.take_succ_get hx
    have hbt := B.bytes_take HBY.out k
    have hlen : (l.take k).length = k := by rw [List.length_take]; have := HL.out; omega
    have hor := B.loadB_or (l.take k) x hx8
    have hll := B.loadB_lt _ hbt
    rw [← ht] at hor
    rw [hlen] at hll
    have hp8 := B.pow_le64 (k := 8 * k + 8) (by omega)
    rw [Nat.pow_add] at hp8
    have hmul : B.loadB (l.take k) * 256 < 18446744073709551616 := by omega
    have hcast : (B.loadB (l.take k) : Int) * 256 = ((B.loadB (l.take k) * 256 : Nat) : Int) := (Int.natCast_mul _ 256).symm
    have h1 := u64w _ hmul
    have h2 := u64_or_nat (B.loadB (l.take k) * 256) x hmul (by omega)
    have hx64 := u64w x (by omega)
    rw [hor] at h2
    have H1 := Lib.hid h1
    have H2 := Lib.hid h2
    have H3 := Lib.hid hcast
    have i0 : (0 : Int) ≤ (b : Int) + (k : Int) := by omega
    have i1 : (b : Int) + (k : Int) < (pn : Int) := by omega
    clear hx ht hbt hlen hor hll hp8 hmul hcast h1 h2
    generalize B.loadB (l.take k) = z at *
    go_wp2_with fail
    go_round
    case rel => exact ⟨k + 1, by omega, by go_num, by rw [H3.out, H1.out, H2.out]⟩
    case measure => simp [intOf]; omega
   ·obtain rfl : k = n := by omega
    go_wp2
    go_ret
    exact ⟨ret_int (by rw [List.take_of_length_le (by have := HL.out; omega)]), rfl⟩

/-- a list of bytes of the call's own -/
def CopyBOut (l : List Nat) (w : World) (e : Ending) (w' : World) : Prop := ∃ ao cap', e = .returned (.slice ao l.length cap') ∧ OwnV 5 w' w.heap.size ao l.length cap' (l.map u8V) ∧ Below w.heap.size w w'

set_option maxHeartbeats 1600000 in
theorem copyB_any (a : Option Addr) (len cap : Nat) (l : List Nat) (w : World) (hp : ListAt w a len (l.map u8V)) (hr : len ≤ 140737488351232) :
    Calls Tryz.prog 107 #[.slice a len cap] w (CopyBOut l w) := by
 have HP := Lib.hid hp
 have HLL : Hid (len = l.length) := Lib.hid (by simpa using hp.len)
 clear hp
 go_enter Tryz.func107, Tryz.ntmps107
 go_wp2
 go_loopw [3, 4] (fun v i wr => ∃ (k : Nat) (ao : Option Addr) (cp : Nat), k ≤ len ∧ i = .int .i64 k ∧ v = .slice ao k cp ∧ OwnV 5 wr w.heap.size ao k cp ((l.take k).map u8V) ∧ Below w.heap.size w wr)
  (fun _ i _ => len - (intOf i).toNat)
 case atStart => exact ⟨0, none, 0, Nat.zero_le _, rfl, rfl, OwnV.nil _ _ _, Below.refl _ _⟩
 case round =>
  obtain ⟨k, ao, cp, hk, rfl, rfl, hown, hb⟩ := hrel
  have HB := Lib.hid hb
  have HO := Lib.hid hown
  have hsz := hb.size
  by_cases hlt : k < len
  ·have hx : l[k]? = some (l[k]'(by have := HLL.out; omega)) := List.getElem?_eq_getElem _
   generalize l[k]'(by have := HLL.out; omega) = x at hx
   obtain ⟨b, off, rfl, hbl, hc⟩ := HP.out.at_ k (u8V x) (by rw [List.getElem?_map, hx]; rfl)
   replace hc := (hb.cell (p := ⟨b, off + k, none⟩) hbl).trans hc
   unfold u8V at hc
   have HX := Lib.hid hx
   clear hx hown hb
   go_wp2_with (at_builtin; refine app_one Tryz.underlying32 infoEB rfl rfl _ _ rfl w.heap.size rfl HO.out rfl rfl (by omega) (by omega) (by omega) ?_; intro ao' cap' w1 hown1 _ _ hb1)
   go_roundw
   case rel => exact ⟨k + 1, ao', cap', by omega, by go_num, rfl, by rw [B.take_succ_get HX.out, List.map_append]; exact hown1, HB.out.trans (hb1.mono (Nat.le_refl _))⟩
   case measure => simp [intOf]; omega
  ·obtain rfl : k = len := by omega
   have HO2 : Hid (OwnV 5 wr w.heap.size ao k cp (l.map u8V)) := by
    have := hown
    rw [List.take_of_length_le (by have := HLL.out; omega)] at this
    exact this
   clear hown hb HO
   go_wp2
   go_ret
   exact ⟨ao, cp, congrArg (fun m => Ending.returned (.slice ao m cp)) HLL.out, by rw [← HLL.out]; exact HO2.out, HB.out⟩

set_option maxRecDepth 100000 in
set_option maxHeartbeats 6400000 in
theorem rstore_any (a : Option Addr) (pn pc b n : Nat) (pay : List Nat) (big : Bool) (v mask : Nat) (w : World) (hp : ListAt w a pn (pay.map u8V)) (hB : B.Bytes pay) (h8 : n ≤ 8) (hb : b + n ≤ pn) (hp8 : pn ≤ 8) :
    Calls Tryz.prog 160 #[.slice a pn pc, .int .i64 b, .int .i64 n, .bool big, .int .u64 v, .int .u64 mask] w (CopyBOut (B.patch pay b (storeX big v mask ((pay.drop b).take n))) w) := by
 have hpl : pn = pay.length := by have := hp.len; simpa using this
 have hlen : (storeX big v mask ((pay.drop b).take n)).length = n := by
  unfold storeX
  cases big <;> simp [B.storeL_length, B.storeB_length] <;> omega
 have hget : ∀ (k : Nat), k < n → ∃ o, pay[b + k]? = some o ∧ o < 256 ∧ (storeX big v mask ((pay.drop b).take n))[k]? = some (B.blendByte o (B.byteOf v (if big then 8 * (n - 1 - k) else 8 * k)) (B.byteOf mask (if big then 8 * (n - 1 - k) else 8 * k))) := by
  intro k hk
  have hx : pay[b + k]? = some (pay[b + k]'(by omega)) := List.getElem?_eq_getElem _
  refine ⟨_, hx, hB _ (List.getElem_mem _), ?_⟩
  have hp : ((pay.drop b).take n)[k]? = some (pay[b + k]'(by omega)) := by rw [List.getElem?_take, if_pos hk, List.getElem?_drop]; exact hx
  have hpl : ((pay.drop b).take n).length = n := by simp; omega
  unfold storeX
  cases big with
  | false =>
   simp only [Bool.false_eq_true, if_false]
   rw [B.storeL_get v mask _ 0 k _ hp, Nat.zero_add]
  | true =>
   simp only [if_true]
   rw [B.storeB_get v mask _ k _ hp, hpl]
 generalize storeX big v mask ((pay.drop b).take n) = new at *
 have hfit : b + new.length ≤ pay.length := by omega
 have HPL : Hid ((B.patch pay b new).length = pn) := by show (B.patch pay b new).length = pn; rw [B.patch_length hfit, hpl]
 have HCP := Lib.hid (copyB_any a pn pc pay w hp (by omega))
 have HL := Lib.hid hlen
 have HG := Lib.hid hget
 have HF := Lib.hid hfit
 have HPN := Lib.hid hpl
 unfold CopyBOut at HCP
 clear hp hB hlen hget hfit hpl
 go_enter Tryz.func160, Tryz.ntmps160
 go_wp2_with fail
 refine HCP.out.mono ?_
 rintro e w1 ⟨ao, cap', rfl, hown, hb1⟩
 rw [← HPN.out] at hown ⊢
 have HB1 := Lib.hid hb1
 clear hb1 HCP
 rcases hown.form with ⟨rfl, h0, rfl⟩ | ⟨g, rfl, hgb, hgw⟩
 ·-- nothing is there
  have hn0 : n = 0 := by omega
  subst hn0
  have hb0 : b = 0 := by omega
  subst hb0
  have HO := Lib.hid hown
  have hne : Hid (B.patch pay 0 new = pay) := by
   have : new = [] := List.eq_nil_of_length_eq_zero HL.out
   subst this
   exact B.patch_nil _ _
  subst h0
  clear hown
  go_wp2_with fail
  go_loop [14] (fun i => i = .int .i64 0) (fun _ => 0)
  case atStart => rfl
  case round =>
   obtain rfl := hrel
   go_wp2_with fail
   go_ret
   rw [hne.out]
   exact ⟨none, 0, congrArg (fun m => Ending.returned (.slice none m 0)) HPN.out, by rw [← HPN.out]; exact HO.out, HB1.out⟩
 ·have HO : Hid (BytesOf w1 w.heap.size g pn cap' (B.patch pay b (new.take 0))) := by
    show w1.ownsRow _ _ _ _ _ _
    rw [List.take_zero, B.patch_nil]
    exact hown.own
  clear hown
  go_wp2_with fail
  go_loopw [14] (fun i wr => ∃ k : Nat, k ≤ n ∧ i = .int .i64 k ∧ BytesOf wr w.heap.size g pn cap' (B.patch pay b (new.take k)) ∧ Below w.heap.size w wr) (fun i _ => n - (intOf i).toNat)
  case atStart => exact ⟨0, by omega, rfl, HO.out, HB1.out⟩
  case round =>
   obtain ⟨k, hk, rfl, ho, hbl⟩ := hrel
   have HK := Lib.hid ho
   have HBL := Lib.hid hbl
   clear ho hbl
   by_cases hlt : k < n
   ·obtain ⟨o, ho1, ho2, ho3⟩ := HG.out k hlt
    obtain ⟨m, hm, hmk⟩ : ∃ m, m < 8 ∧ m = if big then n - 1 - k else k := ⟨_, by split <;> omega, rfl⟩
    have hm8 : (if big then 8 * (n - 1 - k) else 8 * k) = 8 * m := by rw [hmk]; split <;> rfl
    rw [hm8] at ho3
    have hx : wr.cell? ⟨g, b + k, none⟩ = some (.int .u8 (o : Int)) := HK.out.cell (by rw [B.patch_old HF.out (by have := HL.out; omega)]; exact ho1)
    have hf : wr.frozen? ⟨g, b + k, none⟩ = false := World.ownsRow.frozenAt HK.out (b + k)
    have hst := Lib.hid (B.patch_step HF.out ho3)
    have hbl := Lib.hid (blend_bits o _ _ ho2 (B.byteOf_lt v (8 * m)) (B.byteOf_lt mask (8 * m)))
    have i0 : (0 : Int) ≤ (b : Int) + (k : Int) := by omega
    have i1 : (b : Int) + (k : Int) < (pn : Int) := by omega
    have h64 : 8 * (m : Int) < 64 := by omega
    have s2 : IntKind.i64.wrap (8 * (m : Int)) = 8 * (m : Int) := IntWalk.i64_in _ (by omega)
    have s3 : (8 * (m : Int)).toNat = 8 * m := by omega
    have s0 : IntKind.i64.wrap ((b : Int) + (k : Int)) = (b : Int) + (k : Int) := IntWalk.i64_in _ (by omega)
    have s1 : ((b : Int) + (k : Int)).toNat = b + k := by omega
    have HM := Lib.hid hmk
    clear ho1 ho2 ho3 hm8 hmk
    cases big with
    | false =>
     obtain rfl : m = k := by simpa using HM.out
     go_wp2_with fail
     go_still_tail 21, (by kernel_rfl)
     go_wp2_with fail
     go_roundw
     case rel =>
      refine ⟨m + 1, by omega, by go_num, ?_, HBL.out.drew.grown (by rw [byteOf_int, byteOf_int, hbl.out]; exact (World.ownsRow.stored (w := wr.drew) HK.out (b + m) (u8V _)).2) (by have := HBL.out.size; exact this) (fun q hq => by have := Option.some.inj hq; omega)⟩
      rw [byteOf_int, byteOf_int, hbl.out, hst.out]
      exact BytesOf.set (w := wr.drew) HK.out _ _
     case measure => simp [intOf]; omega
    | true =>
     have hmi : (n : Int) - 1 - (k : Int) = (m : Int) := by have := HM.out; simp at this; omega
     have hm0 : 0 ≤ (n : Int) - 1 := by omega
     go_wp2_with fail
     go_still_tail 21, (by kernel_rfl)
     go_wp2_with fail
     go_roundw
     case rel =>
      refine ⟨k + 1, by omega, by go_num, ?_, HBL.out.drew.grown (by rw [byteOf_int, byteOf_int, hbl.out]; exact (World.ownsRow.stored (w := wr.drew) HK.out (b + k) (u8V _)).2) (by have := HBL.out.size; exact this) (fun q hq => by have := Option.some.inj hq; omega)⟩
      rw [byteOf_int, byteOf_int, hbl.out, hst.out]
      exact BytesOf.set (w := wr.drew) HK.out _ _
     case measure => simp [intOf]; omega
   ·obtain rfl : k = n := by omega
    go_wp2_with fail
    go_ret
    have hfin := HK.out
    rw [List.take_of_length_le (by have := HL.out; omega)] at hfin
    exact ⟨some ⟨g, 0, none⟩, cap', congrArg (fun m => Ending.returned (.slice (some ⟨g, 0, none⟩) m cap')) HPL.out.symm, by rw [HPL.out]; exact ⟨by rw [List.length_map, HPL.out], hfin⟩, HBL.out⟩

end Code
end Go.Proofs.YtmpeipdeablkdaaGreatDoor

namespace Go.Proofs.YtmpeipdeablkdaaGreatDoor
open Go.RowKit
namespace Code
open Go.Proofs.YtmpeipdeablkdaaGreatDoor.Code.One
attribute [local go_sem ↓] Go.wp_at_zero Go.wp_at_succ

/-- the cells of a run at an instruction -/
def stA (s : B.St) (pv ov hv : Value) (k : Int) (fl : Bool) (sl : Int) : Array Value :=
 #[.int .u64 (s.r 0 : Int), .int .u64 (s.r 1 : Int), .int .u64 (s.r 2 : Int), .int .u64 (s.r 3 : Int), .int .u64 (s.r 4 : Int), .int .u64 (s.r 5 : Int), .int .u64 (s.r 6 : Int), .int .u64 (s.r 7 : Int),
  .int .u64 (s.r 8 : Int), .int .u64 (s.r 9 : Int), .int .u64 (s.r 10 : Int), .int .u64 (s.r 11 : Int), .int .u64 (s.r 12 : Int), .int .u64 (s.r 13 : Int), .int .u64 (s.r 14 : Int), .int .u64 (s.r 15 : Int),
  pv, ov, hv, .int .i64 k, .bool fl, .int .i64 sl]

def stF (s : B.St) (pv ov hv : Value) (k : Int) (fl : Bool) (sl : Int) (j : Nat) : Value :=
 if j < 16 then .int .u64 (s.r j : Int) else if j = 16 then pv else if j = 17 then ov else if j = 18 then hv else if j = 19 then .int .i64 k else if j = 20 then .bool fl else .int .i64 sl

theorem lt22 {k : Nat} (h : k < 22) : k < 16 ∨ k = 16 ∨ k = 17 ∨ k = 18 ∨ k = 19 ∨ k = 20 ∨ k = 21 := by omega

theorem stA_get (s : B.St) (pv ov hv : Value) (k : Int) (fl : Bool) (sl : Int) (j : Nat) (h : j < 22) : (stA s pv ov hv k fl sl)[j]? = some (stF s pv ov hv k fl sl j) := by
 rcases lt22 h with h | rfl | rfl | rfl | rfl | rfl | rfl
 ·rcases lt16 h with rfl | rfl | rfl | rfl | rfl | rfl | rfl | rfl | rfl | rfl | rfl | rfl | rfl | rfl | rfl | rfl <;> rfl
 all_goals rfl

theorem info167 : (Tryz.prog.info? 167).map (·.size) = some 22 := by kernel_rfl

/-- no run yet -/
def zSt : B.St := ⟨fun _ => 0, [], [], []⟩

/-- a run lies in a block -/
def StIn (w : World) (b : Nat) (s : B.St) (pv ov hv : Value) (k : Int) (fl : Bool) (sl : Int) : Prop := CellsAt w b 167 22 (stF s pv ov hv k fl sl)

theorem StIn.new (s : B.St) (pv ov hv : Value) (k : Int) (fl : Bool) (sl : Int) (w : World) : StIn (w.alloc (.cells (stA s pv ov hv k fl sl) 167)) w.heap.size s pv ov hv k fl sl :=
 CellsAt.new (stA s pv ov hv k fl sl) 167 w _ (fun j hj => stA_get _ _ _ _ _ _ _ j (by simpa [stA] using hj))

section
variable {w w' : World} {b : Nat} {s : B.St} {pv ov hv : Value} {k : Int} {fl : Bool} {sl : Int}

theorem StIn.reg (h : StIn w b s pv ov hv k fl sl) {j : Nat} (hj : j < 16) : w.cell? ⟨b, j, none⟩ = some (.int .u64 (s.r j : Int)) := by
 have := CellsAt.cell h (j := j) (by omega)
 rw [this]; unfold stF; rw [if_pos hj]
theorem StIn.c16 (h : StIn w b s pv ov hv k fl sl) : w.cell? ⟨b, 16, none⟩ = some pv := CellsAt.cell h (j := 16) (by omega)
theorem StIn.c17 (h : StIn w b s pv ov hv k fl sl) : w.cell? ⟨b, 17, none⟩ = some ov := CellsAt.cell h (j := 17) (by omega)
theorem StIn.c18 (h : StIn w b s pv ov hv k fl sl) : w.cell? ⟨b, 18, none⟩ = some hv := CellsAt.cell h (j := 18) (by omega)
theorem StIn.c19 (h : StIn w b s pv ov hv k fl sl) : w.cell? ⟨b, 19, none⟩ = some (.int .i64 k) := CellsAt.cell h (j := 19) (by omega)
theorem StIn.c20 (h : StIn w b s pv ov hv k fl sl) : w.cell? ⟨b, 20, none⟩ = some (.bool fl) := CellsAt.cell h (j := 20) (by omega)
theorem StIn.c21 (h : StIn w b s pv ov hv k fl sl) : w.cell? ⟨b, 21, none⟩ = some (.int .i64 sl) := CellsAt.cell h (j := 21) (by omega)
theorem StIn.free (h : StIn w b s pv ov hv k fl sl) (j : Nat) : w.frozen? ⟨b, j, none⟩ = false := CellsAt.free h j

theorem StIn.setReg (h : StIn w b s pv ov hv k fl sl) {j : Nat} (hj : j < 16) (v : Nat) : StIn (w.setCell ⟨b, j, none⟩ (.int .u64 (v : Int))) b (s.set j v) pv ov hv k fl sl := by
 refine (CellsAt.set h j _).congr (fun i hi => ?_)
 unfold stF B.St.set
 by_cases e : i = j
 ·subst e
  rw [if_pos rfl, if_pos hj]
  simp
 ·rw [if_neg e]
  simp only [e, if_false]
theorem StIn.set16 (h : StIn w b s pv ov hv k fl sl) (v : Value) : StIn (w.setCell ⟨b, 16, none⟩ v) b s v ov hv k fl sl := by
 refine (CellsAt.set h 16 v).congr (fun i hi => ?_)
 rcases lt22 hi with h | rfl | rfl | rfl | rfl | rfl | rfl
 ·rw [if_neg (by omega)]; unfold stF; rw [if_pos h, if_pos h]
 all_goals rfl
theorem StIn.set19 (h : StIn w b s pv ov hv k fl sl) (v : Int) : StIn (w.setCell ⟨b, 19, none⟩ (.int .i64 v)) b s pv ov hv v fl sl := by
 refine (CellsAt.set h 19 _).congr (fun i hi => ?_)
 rcases lt22 hi with h | rfl | rfl | rfl | rfl | rfl | rfl
 ·rw [if_neg (by omega)]; unfold stF; rw [if_pos h, if_pos h]
 all_goals rfl
theorem StIn.set20 (h : StIn w b s pv ov hv k fl sl) (v : Bool) : StIn (w.setCell ⟨b, 20, none⟩ (.bool v)) b s pv ov hv k v sl := by
 refine (CellsAt.set h 20 _).congr (fun i hi => ?_)
 rcases lt22 hi with h | rfl | rfl | rfl | rfl | rfl | rfl
 ·rw [if_neg (by omega)]; unfold stF; rw [if_pos h, if_pos h]
 all_goals rfl
theorem StIn.set21 (h : StIn w b s pv ov hv k fl sl) (v : Int) : StIn (w.setCell ⟨b, 21, none⟩ (.int .i64 v)) b s pv ov hv k fl v := by
 refine (CellsAt.set h 21 _).congr (fun i hi => ?_)
 rcases lt22 hi with h | rfl | rfl | rfl | rfl | rfl | rfl
 ·rw [if_neg (by omega)]; unfold stF; rw [if_pos h, if_pos h]
 all_goals rfl
theorem StIn.congr {t : B.St} (h : StIn w b s pv ov hv k fl sl) (he : ∀ j, j < 16 → s.r j = t.r j) : StIn w b t pv ov hv k fl sl := by
 refine CellsAt.congr h (fun i hi => ?_)
 unfold stF
 by_cases h : i < 16
 ·rw [if_pos h, if_pos h, he i h]
 ·rw [if_neg h, if_neg h]
theorem StIn.range (h : StIn w b s pv ov hv k fl sl) : w.rangeAt b 0 (stA s pv ov hv k fl sl).toList :=
 CellsAt.range h (by simp [stA]) (fun j v hx => by
  have hj : j < 22 := by have := (List.getElem?_eq_some_iff.1 hx).1; simpa [stA] using this
  have e := stA_get s pv ov hv k fl sl j hj
  rw [Array.getElem?_toList] at hx
  rw [Nat.zero_add]
  exact Option.some.inj (e.symm.trans hx))
theorem StIn.of (h : StIn w b s pv ov hv k fl sl) (he : w'.heap[b]? = w.heap[b]?) : StIn w' b s pv ov hv k fl sl := CellsAt.of h he
theorem StIn.blk (h : StIn w b s pv ov hv k fl sl) : b < w.heap.size := CellsAt.blk h
end

theorem stA_ones (s : B.St) (a1 a2 a3 : Option Addr) (n1 c1 n2 c2 n3 c3 : Nat) (k : Int) (fl : Bool) (sl : Int) : (stA s (.slice a1 n1 c1) (.slice a2 n2 c2) (.slice a3 n3 c3) k fl sl).all (·.oneCell') = true := by
 simp [stA, Value.oneCell']

end Code
end Go.Proofs.YtmpeipdeablkdaaGreatDoor

namespace Go.Proofs.YtmpeipdeablkdaaGreatDoor
open Go.RowKit
namespace Code
attribute [local go_sem ↓] Go.wp_at_zero Go.wp_at_succ

/-- what an operation makes of registers -/
def reck (o : Int) (n m ra rb : Nat) : Nat :=
 if o = 1 then m else if o = 2 then rb else if o = 3 then ra &&& rb else if o = 4 then ra ||| rb else if o = 5 then ra ^^^ rb else if o = 6 then B.shl64 ra n else if o = 7 then ra / 2 ^ n else if o = 8 then ra &&& m else B.extend ra n true

def U64Out (v : Nat) (w : World) (e : Ending) (w' : World) : Prop := e = .returned (.int .u64 (v : Int)) ∧ Below w.heap.size w w'

def isReck (o : Int) : Prop := (1 ≤ o ∧ o ≤ 8) ∨ o = 14

theorem reck_exec {o : Int} (h : isReck o) {a b n m : Nat} {inp : List Nat} {s : B.St} : (⟨o, a, b, n, m⟩ : B.Ins).exec inp s = .go 0 (s.set a (reck o n m (s.r a) (s.r b))) := by
 unfold isReck at h
 obtain h | h | h | h | h | h | h | h | h : o = 1 ∨ o = 2 ∨ o = 3 ∨ o = 4 ∨ o = 5 ∨ o = 6 ∨ o = 7 ∨ o = 8 ∨ o = 14 := by omega
 all_goals subst h
 ·rw [B.exec_1]; rfl
 ·rw [B.exec_2]; rfl
 ·rw [B.exec_3]; rfl
 ·rw [B.exec_4]; rfl
 ·rw [B.exec_5]; rfl
 ·rw [B.exec_6]; rfl
 ·rw [B.exec_7]; rfl
 ·rw [B.exec_8]; rfl
 ·rw [B.exec_14]; rfl

theorem reck_b {o : Int} (h : ¬ (2 ≤ o ∧ o ≤ 5)) (n m ra rb rb' : Nat) : reck o n m ra rb = reck o n m ra rb' := by
 have e2 : ¬ o = 2 := by omega
 have e3 : ¬ o = 3 := by omega
 have e4 : ¬ o = 4 := by omega
 have e5 : ¬ o = 5 := by omega
 unfold reck
 simp only [e2, e3, e4, e5, if_false]

set_option maxRecDepth 100000 in
set_option maxHeartbeats 6400000 in
theorem reckon_any (o : Int) (a b n m ra rb size slots left : Nat) (w : World) (ho : isReck o) (hok : B.OpOk o a b n m size slots left) (hra : ra < 18446744073709551616) (hrb : rb < 18446744073709551616) :
    Calls Tryz.prog 162 #[.agg #[.int .i64 o, .int .i64 (a : Int), .int .i64 (b : Int), .int .i64 (n : Int), .int .u64 (m : Int)], .int .u64 (ra : Int), .int .u64 (rb : Int)] w (U64Out (reck o n m ra rb) w) := by
 have hm := hok.hm
 have hsh := hok.shift
 have hwd := hok.width
 have HBL : ∀ o, Hid (Below w.heap.size w (w.alloc (.cells #[.int .i64 o, .int .i64 (a : Int), .int .i64 (b : Int), .int .i64 (n : Int), .int .u64 (m : Int)] 24))) := fun o => Lib.hid ((Below.refl _ _).alloc (Nat.le_refl _) _)
 clear hok
 unfold isReck at ho
 obtain h | h | h | h | h | h | h | h | h : o = 1 ∨ o = 2 ∨ o = 3 ∨ o = 4 ∨ o = 5 ∨ o = 6 ∨ o = 7 ∨ o = 8 ∨ o = 14 := by omega
 all_goals subst h
 ·clear hsh hwd ho
  go_enter Tryz.func162, Tryz.ntmps162
  go_wp2_with fail
  go_ret
  exact ⟨rfl, (HBL _).out⟩
 ·clear hsh hwd ho
  go_enter Tryz.func162, Tryz.ntmps162
  go_wp2_with fail
  go_ret
  exact ⟨rfl, (HBL _).out⟩
 ·have H1 := Lib.hid (u64_and_nat ra rb hra hrb)
  clear hsh hwd ho
  go_enter Tryz.func162, Tryz.ntmps162
  go_wp2_with fail
  go_ret
  exact ⟨ret_int (by rw [H1.out]; rfl), (HBL _).out⟩
 ·have H1 := Lib.hid (u64_or_nat ra rb hra hrb)
  clear hsh hwd ho
  go_enter Tryz.func162, Tryz.ntmps162
  go_wp2_with fail
  go_ret
  exact ⟨ret_int (by rw [H1.out]; rfl), (HBL _).out⟩
 ·have H1 := Lib.hid (u64_xor_nat ra rb hra hrb)
  clear hsh hwd ho
  go_enter Tryz.func162, Tryz.ntmps162
  go_wp2_with fail
  go_ret
  exact ⟨ret_int (by rw [H1.out]; rfl), (HBL _).out⟩
 ·have h64 : (n : Int) < 64 := by have := hsh (by omega); omega
  have h63 : n < 64 := by omega
  clear hsh hwd ho
  go_enter Tryz.func162, Tryz.ntmps162
  go_wp2_with fail
  go_ret
  refine ⟨ret_int ?_, (HBL _).out⟩
  show _ = ((B.shl64 ra n : Nat) : Int)
  unfold B.shl64
  rw [IntKind.wrap_u64, Int.natCast_emod, Int.natCast_mul, Int.natCast_pow]
  rfl
 ·have h64 : (n : Int) < 64 := by have := hsh (by omega); omega
  clear hsh hwd ho
  go_enter Tryz.func162, Tryz.ntmps162
  go_wp2_with fail
  go_ret
  refine ⟨ret_int ?_, (HBL _).out⟩
  show _ = ((ra / 2 ^ n : Nat) : Int)
  rw [Int.natCast_ediv, Int.natCast_pow]
  rfl
 ·have H1 := Lib.hid (u64_and_nat ra m hra hm)
  clear hsh hwd ho
  go_enter Tryz.func162, Tryz.ntmps162
  go_wp2_with fail
  go_ret
  exact ⟨ret_int (by rw [H1.out]; rfl), (HBL _).out⟩
 ·have hw2 := hwd (by omega)
  have HC := fun w => Lib.hid (rextend_any ra n w (by omega) (by omega) hra)
  unfold IntOut at HC
  clear hsh hwd ho
  go_enter Tryz.func162, Tryz.ntmps162
  go_wp2_with fail
  refine (HC _).out.mono ?_
  rintro e w1 ⟨rfl, rfl⟩
  go_wp2_with fail
  go_ret
  exact ⟨rfl, (HBL _).out⟩

end Code
end Go.Proofs.YtmpeipdeablkdaaGreatDoor

namespace Go.Proofs.YtmpeipdeablkdaaGreatDoor
open Go.RowKit
namespace Code
open Go.Proofs.YtmpeipdeablkdaaGreatDoor.Code.One
attribute [local go_sem ↓] Go.wp_at_zero Go.wp_at_succ

/-- what comes of a step -/
def Goes (t : B.Step) (s : B.St) (k e0 : Int) (s' : B.St) (k' : Int) (fl' : Bool) (sl' : Int) : Prop :=
 match t with
 | .halt => s' = s ∧ k' = e0 ∧ fl' = false ∧ sl' = 0
 | .fail j => s' = s ∧ k' = e0 ∧ fl' = true ∧ sl' = j
 | .go d u => s' = u ∧ k' = k + 1 + d ∧ fl' = false ∧ sl' = 0

/-- a run's lists are its own -/
structure StOwn (N pn im : Nat) (w : World) (s : B.St) (pa : Option Addr) (pc : Nat) (oa : Option Addr) (oc : Nat) (ha : Option Addr) (hc : Nat) : Prop where
 pay : OwnV 5 w N pa pn pc (s.pay.map u8V)
 out : OwnV 22 w N oa im oc (s.out.map u64V)
 has : OwnV 4 w N ha im hc (s.has.map Value.bool)

theorem StOwn.kept {N pn im : Nat} {w w' : World} {s : B.St} {pa : Option Addr} {pc : Nat} {oa : Option Addr} {oc : Nat} {ha : Option Addr} {hc : Nat} (h : StOwn N pn im w s pa pc oa oc ha hc) (hb : Below w.heap.size w w') : StOwn N pn im w' s pa pc oa oc ha hc :=
 ⟨h.pay.kept hb, h.out.kept hb, h.has.kept hb⟩

/-- a block of the call's own is stored into -/
theorem StOwn.store {N pn im : Nat} {w : World} {s : B.St} {pa : Option Addr} {pc : Nat} {oa : Option Addr} {oc : Nat} {ha : Option Addr} {hc : Nat} (h : StOwn N pn im w s pa pc oa oc ha hc) {g : Nat} {C : Array Value} (hg : w.heap[g]? = some (.cells C 167 (0, 0))) (j : Nat) (v : Value) : StOwn N pn im (w.setCell ⟨g, j, none⟩ v) s pa pc oa oc ha hc := by
 refine ⟨h.pay.keep (fun q hq => blk_other v ?_), h.out.keep (fun q hq => blk_other v ?_), h.has.keep (fun q hq => blk_other v ?_)⟩
 ·intro e
  simp only at e
  subst e
  exact own_ne h.pay.own hg (by decide) (by rw [hq]; rfl)
 ·intro e
  simp only at e
  subst e
  exact own_ne h.out.own hg (by decide) (by rw [hq]; rfl)
 ·intro e
  simp only at e
  subst e
  exact own_ne h.has.own hg (by decide) (by rw [hq]; rfl)

theorem StOwn.grown {N pn im : Nat} {w w' : World} {s : B.St} {pa : Option Addr} {pc : Nat} {oa : Option Addr} {oc : Nat} {ha : Option Addr} {hc : Nat} (h : StOwn N pn im w s pa pc oa oc ha hc) {g : Nat} {C : Array Value} (hg : w.grownBy w' (some g)) (hC : w.heap[g]? = some (.cells C 167 (0, 0))) : StOwn N pn im w' s pa pc oa oc ha hc := by
 refine ⟨h.pay.keep (fun q hq => hg.block q ?_ ?_), h.out.keep (fun q hq => hg.block q ?_ ?_), h.has.keep (fun q hq => hg.block q ?_ ?_)⟩
 ·have := h.pay; rw [hq] at this; exact (this.own.lt q rfl).2
 ·intro e
  have e := Option.some.inj e
  subst e
  exact own_ne h.pay.own hC (by decide) (by rw [hq]; rfl)
 ·have := h.out; rw [hq] at this; exact (this.own.lt q rfl).2
 ·intro e
  have e := Option.some.inj e
  subst e
  exact own_ne h.out.own hC (by decide) (by rw [hq]; rfl)
 ·have := h.has; rw [hq] at this; exact (this.own.lt q rfl).2
 ·intro e
  have e := Option.some.inj e
  subst e
  exact own_ne h.has.own hC (by decide) (by rw [hq]; rfl)

theorem insR {w : World} {b off : Nat} {x : B.Ins} (h : InsAt w b off x) : w.rangeAt b off (cellsI x) := by
 intro j v hv
 match j, hv with
 | 0, hv => cases hv; exact h.c0
 | 1, hv => cases hv; exact h.c1
 | 2, hv => cases hv; exact h.c2
 | 3, hv => cases hv; exact h.c3
 | 4, hv => cases hv; exact h.c4

theorem StIn.store {w : World} {b : Nat} {s : B.St} {pv ov hv : Value} {k : Int} {fl : Bool} {sl : Int} (h : StIn w b s pv ov hv k fl sl) (s' : B.St) (pv' ov' hv' : Value) (k' : Int) (fl' : Bool) (sl' : Int) : StIn (w.setCells b 0 (stA s' pv' ov' hv' k' fl' sl').toList) b s' pv' ov' hv' k' fl' sl' := by
 refine (CellsAt.setCells (stA s' pv' ov' hv' k' fl' sl').toList 0 h).congr (fun j hj => ?_)
 have e := stA_get s' pv' ov' hv' k' fl' sl' j hj
 rw [if_pos ⟨Nat.zero_le _, by simpa [stA] using hj⟩, Nat.sub_zero, List.getD_eq_getElem?_getD, Array.getElem?_toList, e]
 rfl

/-- ahead of the operation -/
structure StepAt (N X pn im : Nat) (x : B.Ins) (s : B.St) (pa : Option Addr) (pc : Nat) (oa : Option Addr) (oc : Nat) (ha : Option Addr) (hc : Nat) (k : Int) (fl : Bool) (sl : Int) (w wr : World) : Prop where
 st : StIn wr X s (.slice pa pn pc) (.slice oa im oc) (.slice ha im hc) k fl sl
 box : InsAt wr (X + 1) 0 x
 out : StIn wr (X + 1 + 1) zSt (.slice none 0 0) (.slice none 0 0) (.slice none 0 0) 0 false 0
 own : StOwn N pn im wr s pa pc oa oc ha hc
 bel : Below N w wr
 keep : ∀ q, q < X → oa ≠ some ⟨q, 0, none⟩ → ha ≠ some ⟨q, 0, none⟩ → wr.heap[q]? = w.heap[q]?

section
variable {N X pn im : Nat} {x : B.Ins} {s : B.St} {pa : Option Addr} {pc : Nat} {oa : Option Addr} {oc : Nat} {ha : Option Addr} {hc : Nat} {k : Int} {fl : Bool} {sl : Int} {w wr wz : World}

theorem StepAt.below (h : StepAt N X pn im x s pa pc oa oc ha hc k fl sl w wr) (hb : Below wr.heap.size wr wz) (hN : N ≤ wr.heap.size) : StepAt N X pn im x s pa pc oa oc ha hc k fl sl w wz :=
 ⟨h.st.of (hb.block X h.st.blk), h.box.below hb (by have := h.out.blk; omega), h.out.of (hb.block _ h.out.blk), h.own.kept hb, h.bel.trans (hb.mono hN), fun q hq h1 h2 => (hb.block q (by have := h.st.blk; omega)).trans (h.keep q hq h1 h2)⟩

theorem StIn.cells {b : Nat} {pv ov hv : Value} (h : StIn w b s pv ov hv k fl sl) : ∃ C, w.heap[b]? = some (.cells C 167 (0, 0)) := by
 obtain ⟨C, h1, _⟩ := h
 exact ⟨C, h1⟩

theorem StepAt.setReg (h : StepAt N X pn im x s pa pc oa oc ha hc k fl sl w wr) (hX : N ≤ X) {j : Nat} (hj : j < 16) (v : Nat) : StepAt N X pn im x (s.set j v) pa pc oa oc ha hc k fl sl w (wr.setCell ⟨X, j, none⟩ (.int .u64 (v : Int))) := by
 obtain ⟨C, hC⟩ := h.st.cells
 exact ⟨h.st.setReg hj v, InsAt.other h.box _ _ (by simp), CellsAt.other h.out _ _ (by simp; omega), let o := h.own.store hC j (.int .u64 (v : Int)); ⟨o.pay, o.out, o.has⟩, h.bel.setCell (p := ⟨X, j, none⟩) hX _, fun q hq h1 h2 => (blk_other _ (by simp only; omega)).trans (h.keep q hq h1 h2)⟩

theorem StepAt.set19 (h : StepAt N X pn im x s pa pc oa oc ha hc k fl sl w wr) (hX : N ≤ X) (v : Int) : StepAt N X pn im x s pa pc oa oc ha hc v fl sl w (wr.setCell ⟨X, 19, none⟩ (.int .i64 v)) := by
 obtain ⟨C, hC⟩ := h.st.cells
 exact ⟨h.st.set19 v, InsAt.other h.box _ _ (by simp), CellsAt.other h.out _ _ (by simp; omega), h.own.store hC 19 _, h.bel.setCell (p := ⟨X, 19, none⟩) hX _, fun q hq h1 h2 => (blk_other _ (by simp only; omega)).trans (h.keep q hq h1 h2)⟩
theorem StepAt.set20 (h : StepAt N X pn im x s pa pc oa oc ha hc k fl sl w wr) (hX : N ≤ X) (v : Bool) : StepAt N X pn im x s pa pc oa oc ha hc k v sl w (wr.setCell ⟨X, 20, none⟩ (.bool v)) := by
 obtain ⟨C, hC⟩ := h.st.cells
 exact ⟨h.st.set20 v, InsAt.other h.box _ _ (by simp), CellsAt.other h.out _ _ (by simp; omega), h.own.store hC 20 _, h.bel.setCell (p := ⟨X, 20, none⟩) hX _, fun q hq h1 h2 => (blk_other _ (by simp only; omega)).trans (h.keep q hq h1 h2)⟩
theorem StepAt.set21 (h : StepAt N X pn im x s pa pc oa oc ha hc k fl sl w wr) (hX : N ≤ X) (v : Int) : StepAt N X pn im x s pa pc oa oc ha hc k fl v w (wr.setCell ⟨X, 21, none⟩ (.int .i64 v)) := by
 obtain ⟨C, hC⟩ := h.st.cells
 exact ⟨h.st.set21 v, InsAt.other h.box _ _ (by simp), CellsAt.other h.out _ _ (by simp; omega), h.own.store hC 21 _, h.bel.setCell (p := ⟨X, 21, none⟩) hX _, fun q hq h1 h2 => (blk_other _ (by simp only; omega)).trans (h.keep q hq h1 h2)⟩
/-- other bytes -/
theorem StepAt.set16 (h : StepAt N X pn im x s pa pc oa oc ha hc k fl sl w wr) (hX : N ≤ X) {l : List Nat} {pa' : Option Addr} {pc' : Nat} (ho : OwnV 5 wr N pa' pn pc' (l.map u8V)) :
    StepAt N X pn im x { s with pay := l } pa' pc' oa oc ha hc k fl sl w (wr.setCell ⟨X, 16, none⟩ (.slice pa' pn pc')) := by
 obtain ⟨C, hC⟩ := h.st.cells
 have o := h.own.store hC 16 (.slice pa' pn pc')
 refine ⟨(h.st.set16 _).congr (fun _ _ => rfl), InsAt.other h.box _ _ (by simp), CellsAt.other h.out _ _ (by simp; omega), ⟨ho.keep (fun q hq => blk_other _ ?_), o.out, o.has⟩, h.bel.setCell (p := ⟨X, 16, none⟩) hX _, fun q hq h1 h2 => (blk_other _ (by simp only; omega)).trans (h.keep q hq h1 h2)⟩
 intro e
 simp only at e
 subst e
 exact own_ne ho.own hC (by decide) (by rw [hq]; rfl)
/-- a value is handed out -/
theorem StepAt.outs (h : StepAt N X pn im x s pa pc oa oc ha hc k fl sl w wr) {g : Nat} (hg : oa = some ⟨g, 0, none⟩) (hgN : N ≤ g) (hgX : g < X) (i v : Nat) :
    StepAt N X pn im x { s with out := s.out.set i v } pa pc oa oc ha hc k fl sl w (wr.setCell ⟨g, i, none⟩ (.int .u64 (v : Int))) := by
 have ho := h.own.out
 rw [hg] at ho
 refine ⟨(h.st.of (blk_other _ (by simp only; omega))).congr (fun _ _ => rfl), InsAt.other h.box _ _ (by simp only; omega), h.out.of (blk_other _ (by simp only; omega)), ⟨h.own.pay.keep (fun q hq => blk_other _ ?_), ?_, h.own.has.keep (fun q hq => blk_other _ ?_)⟩, h.bel.setCell (p := ⟨g, i, none⟩) hgN _, fun q hq h1 h2 => (blk_other _ (fun e => h1 (by rw [hg]; simp only at e; rw [e]))).trans (h.keep q hq h1 h2)⟩
 ·intro e
  simp only at e
  subst e
  exact own_own_ne h.own.pay.own ho.own (by decide) (b := q) rfl (by rw [hq]; rfl)
 ·rw [hg]
  have := ho.put i (u64V v)
  rw [← List.map_set] at this
  exact this
 ·intro e
  simp only at e
  subst e
  exact own_own_ne h.own.has.own ho.own (by decide) (b := q) rfl (by rw [hq]; rfl)
theorem StepAt.hases (h : StepAt N X pn im x s pa pc oa oc ha hc k fl sl w wr) {g : Nat} (hg : ha = some ⟨g, 0, none⟩) (hgN : N ≤ g) (hgX : g < X) (i : Nat) (v : Bool) :
    StepAt N X pn im x { s with has := s.has.set i v } pa pc oa oc ha hc k fl sl w (wr.setCell ⟨g, i, none⟩ (.bool v)) := by
 have ho := h.own.has
 rw [hg] at ho
 refine ⟨(h.st.of (blk_other _ (by simp only; omega))).congr (fun _ _ => rfl), InsAt.other h.box _ _ (by simp only; omega), h.out.of (blk_other _ (by simp only; omega)), ⟨h.own.pay.keep (fun q hq => blk_other _ ?_), h.own.out.keep (fun q hq => blk_other _ ?_), ?_⟩, h.bel.setCell (p := ⟨g, i, none⟩) hgN _, fun q hq h1 h2 => (blk_other _ (fun e => h2 (by rw [hg]; simp only at e; rw [e]))).trans (h.keep q hq h1 h2)⟩
 ·intro e
  simp only at e
  subst e
  exact own_own_ne h.own.pay.own ho.own (by decide) (b := q) rfl (by rw [hq]; rfl)
 ·intro e
  simp only at e
  subst e
  exact own_own_ne h.own.out.own ho.own (by decide) (b := q) rfl (by rw [hq]; rfl)
 ·rw [hg]
  have := ho.put i (.bool v)
  rw [← List.map_set] at this
  exact this
end

end Code
end Go.Proofs.YtmpeipdeablkdaaGreatDoor

namespace Go.Proofs.YtmpeipdeablkdaaGreatDoor
open Go.RowKit
namespace Code
open Go.Proofs.YtmpeipdeablkdaaGreatDoor.Code.One
attribute [local go_sem ↓] Go.wp_at_zero Go.wp_at_succ

/-- behind a step -/
def StepOut (N pn im : Nat) (t : B.Step) (s : B.St) (k e0 : Int) (oa : Option Addr) (oc : Nat) (ha : Option Addr) (hc : Nat) (w : World) (e : Ending) (w' : World) : Prop :=
 ∃ s' pa' pc' k' fl' sl', e = .returned (.agg (stA s' (.slice pa' pn pc') (.slice oa im oc) (.slice ha im hc) k' fl' sl')) ∧ StOwn N pn im w' s' pa' pc' oa oc ha hc ∧ Below N w w' ∧ (∀ q, q < w.heap.size → oa ≠ some ⟨q, 0, none⟩ → ha ≠ some ⟨q, 0, none⟩ → w'.heap[q]? = w.heap[q]?) ∧ Goes t s k e0 s' k' fl' sl'

/-- .. ahead of its return -/
def StepEnd (N X pn im : Nat) (x : B.Ins) (t : B.Step) (s : B.St) (k e0 : Int) (oa : Option Addr) (oc : Nat) (ha : Option Addr) (hc : Nat) (w wr : World) : Prop :=
 ∃ s' pa' pc' k' fl' sl', StepAt N X pn im x s' pa' pc' oa oc ha hc k' fl' sl' w wr ∧ Goes t s k e0 s' k' fl' sl'

theorem zSt_new (w : World) : StIn (w.alloc (.cells #[.int .u64 0, .int .u64 0, .int .u64 0, .int .u64 0, .int .u64 0, .int .u64 0, .int .u64 0, .int .u64 0, .int .u64 0, .int .u64 0, .int .u64 0, .int .u64 0, .int .u64 0, .int .u64 0, .int .u64 0, .int .u64 0, .slice none 0 0, .slice none 0 0, .slice none 0 0, .int .i64 0, .bool false, .int .i64 0] 167)) w.heap.size zSt (.slice none 0 0) (.slice none 0 0) (.slice none 0 0) 0 false 0 :=
 StIn.new zSt (.slice none 0 0) (.slice none 0 0) (.slice none 0 0) 0 false 0 w

set_option maxRecDepth 100000 in
set_option maxHeartbeats 25600000 in
theorem step_any (N pn im : Nat) (o : Int) (a b n m left : Nat) (s : B.St) (pa : Option Addr) (pc : Nat) (oa : Option Addr) (oc : Nat) (ha : Option Addr) (hc : Nat) (k : Nat) (ia : Option Addr) (ic : Nat) (inp : List Nat) (e0 : Int) (w : World)
    (ho : 0 ≤ o ∧ o ≤ 19) (hok : B.OpOk o a b n m pn im left) (hk : k ≤ 100000) (hl : left ≤ 100000) (hst : B.StOk pn im s) (hown : StOwn N pn im w s pa pc oa oc ha hc) (hN : N ≤ w.heap.size) (hin : ListAt w ia im (inp.map u64V)) (hwi : B.Words inp) (hp8 : pn ≤ 8) :
    Calls Tryz.prog 108 #[.agg (stA s (.slice pa pn pc) (.slice oa im oc) (.slice ha im hc) k false 0), .agg #[.int .i64 o, .int .i64 (a : Int), .int .i64 (b : Int), .int .i64 (n : Int), .int .u64 (m : Int)], .slice ia im ic, .int .i64 e0] w (StepOut N pn im ((⟨o, a, b, n, m⟩ : B.Ins).exec inp s) s k e0 oa oc ha hc w) := by
 obtain ⟨w1, hw1⟩ : ∃ w1, (((w.alloc (.cells (stA s (.slice pa pn pc) (.slice oa im oc) (.slice ha im hc) (k + 1) false 0) 167)).alloc (.cells #[.int .i64 o, .int .i64 (a : Int), .int .i64 (b : Int), .int .i64 (n : Int), .int .u64 (m : Int)] 24)).alloc (.cells #[.int .u64 0, .int .u64 0, .int .u64 0, .int .u64 0, .int .u64 0, .int .u64 0, .int .u64 0, .int .u64 0, .int .u64 0, .int .u64 0, .int .u64 0, .int .u64 0, .int .u64 0, .int .u64 0, .int .u64 0, .int .u64 0, .slice none 0 0, .slice none 0 0, .slice none 0 0, .int .i64 0, .bool false, .int .i64 0] 167)) = w1 := ⟨_, rfl⟩
 have HBW : Hid (Below w.heap.size w w1) := by rw [← hw1]; exact Lib.hid ((((Below.refl _ _).alloc (Nat.le_refl _) _).alloc (by simp) _).alloc (by simp; omega) _)
 have HA : Hid (StepAt N w.heap.size pn im ⟨o, a, b, n, m⟩ s pa pc oa oc ha hc (k + 1) false 0 w w1) := by
  refine Lib.hid ⟨?_, ?_, ?_, hown.kept HBW.out, HBW.out.mono hN, fun q hq _ _ => HBW.out.block q hq⟩
  ·rw [← hw1]
   exact StIn.of ((StIn.new s (.slice pa pn pc) (.slice oa im oc) (.slice ha im hc) (k + 1) false 0 w)) ((heap_alloc_old _ _ (by simp; omega)).trans (heap_alloc_old _ _ (by simp)))
  ·rw [← hw1]
   have h := insAt_new ⟨o, a, b, n, m⟩ (w.alloc (.cells (stA s (.slice pa pn pc) (.slice oa im oc) (.slice ha im hc) (k + 1) false 0) 167))
   rw [show (w.alloc (.cells (stA s (.slice pa pn pc) (.slice oa im oc) (.slice ha im hc) (k + 1) false 0) 167)).heap.size = w.heap.size + 1 by simp] at h
   exact h.below ((Below.refl (w.heap.size + 1 + 1) _).alloc (by simp) _) (by omega)
  ·rw [← hw1]
   have h := zSt_new ((w.alloc (.cells (stA s (.slice pa pn pc) (.slice oa im oc) (.slice ha im hc) (k + 1) false 0) 167)).alloc (.cells #[.int .i64 o, .int .i64 (a : Int), .int .i64 (b : Int), .int .i64 (n : Int), .int .u64 (m : Int)] 24))
   simpa using h
 have HIN := Lib.hid (hin.below HBW.out (Nat.le_refl _))
 have HOK := Lib.hid hok
 have HST := Lib.hid hst
 have HWI := Lib.hid hwi
 have HLO : Hid (∀ g, oa = some ⟨g, 0, none⟩ → N ≤ g ∧ g < w.heap.size) := Lib.hid (fun g e => by have := hown.out; rw [e] at this; exact this.own.lt g rfl)
 have HLH : Hid (∀ g, ha = some ⟨g, 0, none⟩ → N ≤ g ∧ g < w.heap.size) := Lib.hid (fun g e => by have := hown.has; rw [e] at this; exact this.own.lt g rfl)
 have hw1s : w.heap.size + 1 + 1 < w1.heap.size := HA.out.out.blk
 clear hin hok hst hwi hown HBW
 unfold stA at hw1 ⊢
 go_enter Tryz.func108, Tryz.ntmps108
 go_upto_region 2 with fail
 try rw [hw1]
 clear hw1
 obtain ⟨X, hX⟩ : ∃ X, w.heap.size = X := ⟨_, rfl⟩
 rw [hX] at HA HLO HLH hN hw1s ⊢
 have HX := Lib.hid hX
 clear hX
 have ha15 := HOK.out.ha
 have ra := HA.out.st.reg (j := a) (by omega)
 have ia0 : (0 : Int) ≤ (a : Int) := by omega
 have ia1 : (a : Int) < 16 := by omega
 obtain ⟨d0, d1, d2, d3, d4⟩ := HA.out.box
 simp only [Nat.zero_add] at d0 d1 d2 d3 d4
 go_upto_block 0 with fail
 go_cut [] from 10 to 168 (fun wy => StepEnd N X pn im ⟨o, a, b, n, m⟩ ((⟨o, a, b, n, m⟩ : B.Ins).exec inp s) s k e0 oa oc ha hc w wy)
 case first =>
  have hsr := HST.out.reg
  have c16 := HA.out.st.c16
  have c19 := HA.out.st.c19
  have c20 := HA.out.st.c20
  have c21 := HA.out.st.c21
  have f19 := HA.out.st.free 19
  have f20 := HA.out.st.free 20
  have f21 := HA.out.st.free 21
  have f16 := HA.out.st.free 16
  have fa := HA.out.st.free a
  by_cases e0' : o = 0
  ·subst e0'
   have HR := Lib.hid (HA.out.set19 hN e0)
   have HE := Lib.hid (B.exec_0 (inp := inp) (s := s) (a := a) (b := b) (n := n) (m := m))
   go_wp2_with fail
   go_meet
   exact ⟨_, _, _, _, _, _, HR.out, by rw [HE.out]; exact ⟨rfl, rfl, rfl, rfl⟩⟩
  have q0 : (o == 0) = false := by simpa using e0'
  by_cases e18 : o = 18
  ·subst e18
   have hj := HOK.out.jump (by omega)
   have s1 : IntKind.i64.wrap ((k : Int) + 1 + (n : Int)) = (k : Int) + 1 + (n : Int) := IntWalk.i64_in _ (by omega)
   have HR := Lib.hid (HA.out.set19 hN ((k : Int) + 1 + (n : Int)))
   have HE := Lib.hid (B.exec_18 (inp := inp) (s := s) (a := a) (b := b) (n := n) (m := m))
   go_wp2_with fail
   go_meet
   exact ⟨_, _, _, _, _, _, HR.out, by rw [HE.out]; exact ⟨rfl, rfl, rfl, rfl⟩⟩
  have q18 : (o == 18) = false := by simpa using e18
  by_cases e19 : o = 19
  ·subst e19
   have hj := HOK.out.jump (by omega)
   have s1 : IntKind.i64.wrap ((k : Int) + 1 + (n : Int)) = (k : Int) + 1 + (n : Int) := IntWalk.i64_in _ (by omega)
   have HR := Lib.hid (HA.out.set19 hN ((k : Int) + 1 + (n : Int)))
   by_cases hm : s.r a = m
   ·have q1 : (((s.r a : Nat) : Int) != ((m : Nat) : Int)) = false := by simp; omega
    have HE := Lib.hid (B.exec_19y (inp := inp) (b := b) (n := n) hm)
    clear hm
    go_wp2_with fail
    go_meet
    exact ⟨_, _, _, _, _, _, HA.out, by rw [HE.out]; exact ⟨rfl, by simp, rfl, rfl⟩⟩
   ·have q1 : (((s.r a : Nat) : Int) != ((m : Nat) : Int)) = true := by simp; omega
    have HE := Lib.hid (B.exec_19n (inp := inp) (b := b) (n := n) hm)
    clear hm
    go_wp2_with fail
    go_meet
    exact ⟨_, _, _, _, _, _, HR.out, by rw [HE.out]; exact ⟨rfl, rfl, rfl, rfl⟩⟩
  have q19 : (o == 19) = false := by simpa using e19
  by_cases e17 : o = 17
  ·subst e17
   have hwd := HOK.out.width (by omega)
   have HF := fun w => Lib.hid (rfits_any (s.r a) n (decide (m = 1)) w hwd.1 hwd.2 (hsr a))
   unfold FitsOut at HF
   have qm : ((m : Int) == 1) = decide (m = 1) := by rw [Bool.eq_iff_iff]; simp; omega
   cases hf : B.fits (s.r a) n (decide (m = 1)) with
   | true =>
    have HE := Lib.hid (B.exec_17y (inp := inp) (b := b) hf)
    simp only [hf] at HF
    clear hf
    go_wp2_with fail
    try rw [qm]
    refine (HF _).out.mono ?_
    rintro e w2 ⟨rfl, rfl⟩
    go_wp2_with fail
    go_meet
    exact ⟨_, _, _, _, _, _, HA.out, by rw [HE.out]; exact ⟨rfl, by simp, rfl, rfl⟩⟩
   | false =>
    have HE := Lib.hid (B.exec_17n (inp := inp) (b := b) hf)
    simp only [hf] at HF
    have HR := Lib.hid (((HA.out.set20 hN true).set21 hN b).set19 hN e0)
    clear hf
    go_wp2_with fail
    try rw [qm]
    refine (HF _).out.mono ?_
    rintro e w2 ⟨rfl, rfl⟩
    go_wp2_with fail
    go_meet
    exact ⟨_, _, _, _, _, _, HR.out, by rw [HE.out]; exact ⟨rfl, rfl, rfl, rfl⟩⟩
  have q17 : (o == 17) = false := by simpa using e17
  by_cases e16 : o = 16
  ·subst e16
   have hsl := HOK.out.slot (by omega)
   have c17 := HA.out.st.c17
   have c18 := HA.out.st.c18
   obtain ⟨go_, hgo, _⟩ := HA.out.own.out.form.resolve_left (by omega)
   obtain ⟨gh, hgh, _⟩ := HA.out.own.has.form.resolve_left (by omega)
   have ho := HA.out.own.out
   have hh := HA.out.own.has
   rw [hgo] at ho
   rw [hgh] at hh
   have fo : w1.frozen? ⟨go_, b, none⟩ = false := World.ownsRow.frozenAt ho.own b
   have fh : w1.frozen? ⟨gh, b, none⟩ = false := World.ownsRow.frozenAt hh.own b
   obtain ⟨u, hu⟩ : ∃ u, w1.cell? ⟨go_, b, none⟩ = some u := by
    rw [World.ownsRow.cellAt ho.own b (by omega)]
    exact ⟨_, List.getElem?_eq_getElem (by have := ho.len; omega)⟩
   obtain ⟨v, hv⟩ : ∃ v, w1.cell? ⟨gh, b, none⟩ = some v := by
    rw [World.ownsRow.cellAt hh.own b (by omega)]
    exact ⟨_, List.getElem?_eq_getElem (by have := hh.len; omega)⟩
   have HR := Lib.hid ((HA.out.outs hgo (HLO.out go_ hgo).1 (HLO.out go_ hgo).2 b (s.r a)).hases hgh (HLH.out gh hgh).1 (HLH.out gh hgh).2 b true)
   have hne : go_ ≠ gh := fun e => own_own_ne hh.own ho.own (by decide) (b := go_) rfl (by rw [e]; rfl)
   have ib0 : (0 : Int) ≤ (b : Int) := by omega
   have ib1 : (b : Int) < (im : Int) := by omega
   have hX1 : X ≠ go_ := by have := (HLO.out go_ hgo).2; omega
   have hX2 : X + 1 ≠ go_ := by have := (HLO.out go_ hgo).2; omega
   rw [hgo] at c17
   rw [hgh] at c18
   clear hgo hgh
   have HE := Lib.hid (B.exec_16 (inp := inp) (s := s) (a := a) (b := b) (n := n) (m := m))
   clear ho hh
   go_wp2_with fail
   go_meet
   exact ⟨_, _, _, _, _, _, HR.out, by rw [HE.out]; exact ⟨rfl, by simp, rfl, rfl⟩⟩
  have q16 : (o == 16) = false := by simpa using e16
  by_cases e15 : o = 15
  ·subst e15
   have hsl := HOK.out.slot (by omega)
   have hil : im = inp.length := by have := HIN.out.len; simpa using this
   have hv : inp[b]? = some (inp.getD b 0) := by rw [List.getD_eq_getElem?_getD, List.getElem?_eq_getElem (by omega)]; rfl
   obtain ⟨g, off, rfl, _, hcx⟩ := HIN.out.at_ b (u64V (inp.getD b 0)) (by rw [List.getElem?_map, hv]; rfl)
   unfold u64V at hcx
   have HR := Lib.hid ((HA.out.below (Below.refl _ _).drew (by have := HA.out.bel.size; omega)).setReg hN (j := a) (by omega) (inp.getD b 0))
   have ib0 : (0 : Int) ≤ (b : Int) := by omega
   have ib1 : (b : Int) < (im : Int) := by omega
   have HE := Lib.hid (B.exec_15 (inp := inp) (s := s) (a := a) (b := b) (n := n) (m := m))
   clear hil hv
   obtain ⟨v, hve⟩ : ∃ v, inp.getD b 0 = v := ⟨_, rfl⟩
   rw [hve] at hcx HR HE
   clear hve
   go_wp2_with fail
   go_still_tail 9, (by kernel_rfl)
   go_wp2_with fail
   go_meet
   exact ⟨_, _, _, _, _, _, HR.out, by rw [HE.out]; exact ⟨rfl, by simp, rfl, rfl⟩⟩
  have q15 : (o == 15) = false := by simpa using e15
  by_cases e11 : o = 11
  ·subst e11
   have hby := HOK.out.bytes (by omega)
   have HC := fun w' (h : ListAt w' pa pn (s.pay.map u8V)) => Lib.hid (rstore_any pa pn pc b n s.pay false (s.r a) 18446744073709551615 w' h HST.out.pay hby.2.1 hby.2.2 hp8)
   unfold CopyBOut at HC
   have hlen : (B.patch s.pay b (storeX false (s.r a) 18446744073709551615 ((s.pay.drop b).take n))).length = pn := by
    rw [B.patch_length]
    ·exact HST.out.payl
    ·unfold storeX; simp [B.storeL_length]; have := HST.out.payl; omega
   have HE := Lib.hid (B.exec_11 (inp := inp) (s := s) (a := a) (b := b) (n := n) (m := m))
   obtain ⟨l, hl'⟩ : ∃ l, B.patch s.pay b (storeX false (s.r a) 18446744073709551615 ((s.pay.drop b).take n)) = l := ⟨_, rfl⟩
   rw [hl'] at hlen
   simp only [hl'] at HC
   have HLL := Lib.hid hl'
   have HLN := Lib.hid hlen
   have hz : N ≤ w1.heap.size := by omega
   clear hl' hlen
   go_wp2_with fail
   refine (HC _ (ListAt.ofOwn HA.out.own.pay.own)).out.mono ?_
   rintro e w2 ⟨pa', pc', rfl, hown2, hb2⟩
   rw [HLN.out] at hown2 ⊢
   have HA2 := Lib.hid (HA.out.below hb2 hz)
   have HR := Lib.hid (HA2.out.set16 hN (hown2.weaken (base' := N) hz))
   have g16 := HA2.out.st.c16
   have k16 := HA2.out.st.free 16
   clear hb2 hown2 c16 f16 HA
   go_wp2_with fail
   go_meet
   exact ⟨_, _, _, _, _, _, HR.out, by rw [HE.out]; exact ⟨by rw [← HLL.out]; rfl, by simp, rfl, rfl⟩⟩
  have q11 : (o == 11) = false := by simpa using e11
  by_cases e12 : o = 12
  ·subst e12
   have hby := HOK.out.bytes (by omega)
   have HC := fun w' (h : ListAt w' pa pn (s.pay.map u8V)) => Lib.hid (rstore_any pa pn pc b n s.pay true (s.r a) 18446744073709551615 w' h HST.out.pay hby.2.1 hby.2.2 hp8)
   unfold CopyBOut at HC
   have hlen : (B.patch s.pay b (storeX true (s.r a) 18446744073709551615 ((s.pay.drop b).take n))).length = pn := by
    rw [B.patch_length]
    ·exact HST.out.payl
    ·unfold storeX; simp [B.storeB_length]; have := HST.out.payl; omega
   have HE := Lib.hid (B.exec_12 (inp := inp) (s := s) (a := a) (b := b) (n := n) (m := m))
   obtain ⟨l, hl'⟩ : ∃ l, B.patch s.pay b (storeX true (s.r a) 18446744073709551615 ((s.pay.drop b).take n)) = l := ⟨_, rfl⟩
   rw [hl'] at hlen
   simp only [hl'] at HC
   have HLL := Lib.hid hl'
   have HLN := Lib.hid hlen
   have hz : N ≤ w1.heap.size := by omega
   clear hl' hlen
   go_wp2_with fail
   refine (HC _ (ListAt.ofOwn HA.out.own.pay.own)).out.mono ?_
   rintro e w2 ⟨pa', pc', rfl, hown2, hb2⟩
   rw [HLN.out] at hown2 ⊢
   have HA2 := Lib.hid (HA.out.below hb2 hz)
   have HR := Lib.hid (HA2.out.set16 hN (hown2.weaken (base' := N) hz))
   have g16 := HA2.out.st.c16
   have k16 := HA2.out.st.free 16
   clear hb2 hown2 c16 f16 HA
   go_wp2_with fail
   go_meet
   exact ⟨_, _, _, _, _, _, HR.out, by rw [HE.out]; exact ⟨by rw [← HLL.out]; rfl, by simp, rfl, rfl⟩⟩
  have q12 : (o == 12) = false := by simpa using e12
  by_cases e13 : o = 13
  ·subst e13
   have hby := HOK.out.bytes (by omega)
   have HC := fun w' (h : ListAt w' pa pn (s.pay.map u8V)) => Lib.hid (rstore_any pa pn pc b n s.pay false (s.r a) m w' h HST.out.pay hby.2.1 hby.2.2 hp8)
   unfold CopyBOut at HC
   have hlen : (B.patch s.pay b (storeX false (s.r a) m ((s.pay.drop b).take n))).length = pn := by
    rw [B.patch_length]
    ·exact HST.out.payl
    ·unfold storeX; simp [B.storeL_length]; have := HST.out.payl; omega
   have HE := Lib.hid (B.exec_13 (inp := inp) (s := s) (a := a) (b := b) (n := n) (m := m))
   obtain ⟨l, hl'⟩ : ∃ l, B.patch s.pay b (storeX false (s.r a) m ((s.pay.drop b).take n)) = l := ⟨_, rfl⟩
   rw [hl'] at hlen
   simp only [hl'] at HC
   have HLL := Lib.hid hl'
   have HLN := Lib.hid hlen
   have hz : N ≤ w1.heap.size := by omega
   clear hl' hlen
   go_wp2_with fail
   refine (HC _ (ListAt.ofOwn HA.out.own.pay.own)).out.mono ?_
   rintro e w2 ⟨pa', pc', rfl, hown2, hb2⟩
   rw [HLN.out] at hown2 ⊢
   have HA2 := Lib.hid (HA.out.below hb2 hz)
   have HR := Lib.hid (HA2.out.set16 hN (hown2.weaken (base' := N) hz))
   have g16 := HA2.out.st.c16
   have k16 := HA2.out.st.free 16
   clear hb2 hown2 c16 f16 HA
   go_wp2_with fail
   go_meet
   exact ⟨_, _, _, _, _, _, HR.out, by rw [HE.out]; exact ⟨by rw [← HLL.out]; rfl, by simp, rfl, rfl⟩⟩
  have q13 : (o == 13) = false := by simpa using e13
  by_cases e9 : o = 9
  ·subst e9
   have hby := HOK.out.bytes (by omega)
   have HC := fun w' (h : ListAt w' pa pn (s.pay.map u8V)) => Lib.hid (rload_any pa pn pc b n s.pay false w' h HST.out.pay hby.2.1 hby.2.2 hp8)
   unfold IntOut at HC
   have HE := Lib.hid (B.exec_9 (inp := inp) (s := s) (a := a) (b := b) (n := n) (m := m))
   simp only [Bool.false_eq_true, if_false] at HC
   have hz : N ≤ w1.heap.size := by omega
   have HAD := Lib.hid (HA.out.below (Below.refl _ _).drew hz)
   have HR := Lib.hid (HAD.out.setReg hN (j := a) (by omega) (B.loadL ((s.pay.drop b).take n)))
   have HPY := Lib.hid (ListAt.ofOwn HAD.out.own.pay.own)
   obtain ⟨v, hve⟩ : ∃ v, B.loadL ((s.pay.drop b).take n) = v := ⟨_, rfl⟩
   rw [hve] at HR HE
   simp only [hve] at HC
   clear hve
   go_wp2_with fail
   refine wp_region_held_drew (S := fun w' => InsAt w' (X + 1) 0 ⟨9, a, b, n, m⟩ ∧ w'.cell? ⟨X, 16, none⟩ = some (.slice pa pn pc)) (by kernel_rfl) ⟨HAD.out.box, HAD.out.st.c16⟩ (fun hS => ?_)
   refine takeS (i := 0) (d := 49) (v := .pointer (some ⟨X + 1, 1, none⟩)) rfl rfl rfl (by kernel_rfl) (by kernel_rfl) (by kernel_rfl) (fun _ _ _ h => h) (fun w' hw => by go_simp) hS ?_
   simp only [Act.put, List.setIfInBounds_toArray, List.set_cons_zero, List.set_cons_succ]
   refine takeS (i := 1) (d := 50) (v := .int .i64 (a : Int)) rfl rfl rfl (by kernel_rfl) (by kernel_rfl) (by kernel_rfl) (fun _ _ _ h => h) (fun w' hw => by (have hq := hw.1.c1; simp only [Nat.zero_add] at hq; go_simp)) hS ?_
   simp only [Act.put, List.setIfInBounds_toArray, List.set_cons_zero, List.set_cons_succ]
   refine takeS (i := 2) (d := 51) (v := .pointer (some ⟨X, 16, none⟩)) rfl rfl rfl (by kernel_rfl) (by kernel_rfl) (by kernel_rfl) (fun _ _ _ h => h) (fun w' hw => by go_simp) hS ?_
   simp only [Act.put, List.setIfInBounds_toArray, List.set_cons_zero, List.set_cons_succ]
   refine takeS (i := 3) (d := 52) (v := .slice pa pn pc) rfl rfl rfl (by kernel_rfl) (by kernel_rfl) (by kernel_rfl) (fun _ _ _ h => h) (fun w' hw => by (have hq := hw.2; go_simp)) hS ?_
   simp only [Act.put, List.setIfInBounds_toArray, List.set_cons_zero, List.set_cons_succ]
   refine takeS (i := 4) (d := 53) (v := .pointer (some ⟨X + 1, 2, none⟩)) rfl rfl rfl (by kernel_rfl) (by kernel_rfl) (by kernel_rfl) (fun _ _ _ h => h) (fun w' hw => by go_simp) hS ?_
   simp only [Act.put, List.setIfInBounds_toArray, List.set_cons_zero, List.set_cons_succ]
   refine takeS (i := 5) (d := 54) (v := .int .i64 (b : Int)) rfl rfl rfl (by kernel_rfl) (by kernel_rfl) (by kernel_rfl) (fun _ _ _ h => h) (fun w' hw => by (have hq := hw.1.c2; simp only [Nat.zero_add] at hq; go_simp)) hS ?_
   simp only [Act.put, List.setIfInBounds_toArray, List.set_cons_zero, List.set_cons_succ]
   refine takeS (i := 6) (d := 55) (v := .pointer (some ⟨X + 1, 3, none⟩)) rfl rfl rfl (by kernel_rfl) (by kernel_rfl) (by kernel_rfl) (fun _ _ _ h => h) (fun w' hw => by go_simp) hS ?_
   simp only [Act.put, List.setIfInBounds_toArray, List.set_cons_zero, List.set_cons_succ]
   refine takeS (i := 7) (d := 56) (v := .int .i64 (n : Int)) rfl rfl rfl (by kernel_rfl) (by kernel_rfl) (by kernel_rfl) (fun _ _ _ h => h) (fun w' hw => by (have hq := hw.1.c3; simp only [Nat.zero_add] at hq; go_simp)) hS ?_
   simp only [Act.put, List.setIfInBounds_toArray, List.set_cons_zero, List.set_cons_succ]
   refine takeS (i := 9) (d := 58) (v := .pointer (some ⟨X, 0, none⟩)) rfl rfl rfl (by kernel_rfl) (by kernel_rfl) (by kernel_rfl) (fun _ _ _ h => h) (fun w' hw => by go_simp) hS ?_
   simp only [Act.put, List.setIfInBounds_toArray, List.set_cons_zero, List.set_cons_succ]
   refine wpAnyH_ready (rs := [8]) (by kernel_rfl) (by simp) ?_
   refine AllReadyH.cons rfl (fun K hK => ?_) AllReadyH.nil
   go_simp
   refine (HC _ HPY.out).out.mono ?_
   rintro e w2 ⟨rfl, rfl⟩
   refine hK.out _ _ ⟨HAD.out.box, HAD.out.st.c16⟩ (fun hS => ?_)
   clear hK K
   refine takeS (i := 10) (d := 59) (v := .pointer (some ⟨X, a, none⟩)) rfl rfl rfl (by kernel_rfl) (by kernel_rfl) (by kernel_rfl) (fun _ _ _ h => h) (fun w' hw => by go_simp) hS ?_
   simp only [Act.put, List.setIfInBounds_toArray, List.set_cons_zero, List.set_cons_succ]
   refine wpAnyH_ready (rs := [11]) (by kernel_rfl) (by simp) ?_
   refine AllReadyH.cons rfl (fun K hK => ?_) AllReadyH.nil
   rw [if_pos (by rfl)]
   have rad := HAD.out.st.reg (j := a) (by omega)
   have fad := HAD.out.st.free a
   go_simp
   refine hK.out _ _ ⟨HR.out.box, HR.out.st.c16⟩ (fun _ => ?_)
   clear hK K
   refine wpAnyH_done (by kernel_rfl) ?_ _
   go_wp2_with fail
   go_meet
   exact ⟨_, _, _, _, _, _, HR.out, by rw [HE.out]; exact ⟨rfl, by simp, rfl, rfl⟩⟩
  have q9 : (o == 9) = false := by simpa using e9
  by_cases e10 : o = 10
  ·subst e10
   have hby := HOK.out.bytes (by omega)
   have HC := fun w' (h : ListAt w' pa pn (s.pay.map u8V)) => Lib.hid (rload_any pa pn pc b n s.pay true w' h HST.out.pay hby.2.1 hby.2.2 hp8)
   unfold IntOut at HC
   have HE := Lib.hid (B.exec_10 (inp := inp) (s := s) (a := a) (b := b) (n := n) (m := m))
   simp only [if_true] at HC
   have hz : N ≤ w1.heap.size := by omega
   have HAD := Lib.hid (HA.out.below (Below.refl _ _).drew hz)
   have HR := Lib.hid (HAD.out.setReg hN (j := a) (by omega) (B.loadB ((s.pay.drop b).take n)))
   have HPY := Lib.hid (ListAt.ofOwn HAD.out.own.pay.own)
   obtain ⟨v, hve⟩ : ∃ v, B.loadB ((s.pay.drop b).take n) = v := ⟨_, rfl⟩
   rw [hve] at HR HE
   simp only [hve] at HC
   clear hve
   go_wp2_with fail
   refine wp_region_held_drew (S := fun w' => InsAt w' (X + 1) 0 ⟨10, a, b, n, m⟩ ∧ w'.cell? ⟨X, 16, none⟩ = some (.slice pa pn pc)) (by kernel_rfl) ⟨HAD.out.box, HAD.out.st.c16⟩ (fun hS => ?_)
   refine takeS (i := 0) (d := 62) (v := .pointer (some ⟨X + 1, 1, none⟩)) rfl rfl rfl (by kernel_rfl) (by kernel_rfl) (by kernel_rfl) (fun _ _ _ h => h) (fun w' hw => by go_simp) hS ?_
   simp only [Act.put, List.setIfInBounds_toArray, List.set_cons_zero, List.set_cons_succ]
   refine takeS (i := 1) (d := 63) (v := .int .i64 (a : Int)) rfl rfl rfl (by kernel_rfl) (by kernel_rfl) (by kernel_rfl) (fun _ _ _ h => h) (fun w' hw => by (have hq := hw.1.c1; simp only [Nat.zero_add] at hq; go_simp)) hS ?_
   simp only [Act.put, List.setIfInBounds_toArray, List.set_cons_zero, List.set_cons_succ]
   refine takeS (i := 2) (d := 64) (v := .pointer (some ⟨X, 16, none⟩)) rfl rfl rfl (by kernel_rfl) (by kernel_rfl) (by kernel_rfl) (fun _ _ _ h => h) (fun w' hw => by go_simp) hS ?_
   simp only [Act.put, List.setIfInBounds_toArray, List.set_cons_zero, List.set_cons_succ]
   refine takeS (i := 3) (d := 65) (v := .slice pa pn pc) rfl rfl rfl (by kernel_rfl) (by kernel_rfl) (by kernel_rfl) (fun _ _ _ h => h) (fun w' hw => by (have hq := hw.2; go_simp)) hS ?_
   simp only [Act.put, List.setIfInBounds_toArray, List.set_cons_zero, List.set_cons_succ]
   refine takeS (i := 4) (d := 66) (v := .pointer (some ⟨X + 1, 2, none⟩)) rfl rfl rfl (by kernel_rfl) (by kernel_rfl) (by kernel_rfl) (fun _ _ _ h => h) (fun w' hw => by go_simp) hS ?_
   simp only [Act.put, List.setIfInBounds_toArray, List.set_cons_zero, List.set_cons_succ]
   refine takeS (i := 5) (d := 67) (v := .int .i64 (b : Int)) rfl rfl rfl (by kernel_rfl) (by kernel_rfl) (by kernel_rfl) (fun _ _ _ h => h) (fun w' hw => by (have hq := hw.1.c2; simp only [Nat.zero_add] at hq; go_simp)) hS ?_
   simp only [Act.put, List.setIfInBounds_toArray, List.set_cons_zero, List.set_cons_succ]
   refine takeS (i := 6) (d := 68) (v := .pointer (some ⟨X + 1, 3, none⟩)) rfl rfl rfl (by kernel_rfl) (by kernel_rfl) (by kernel_rfl) (fun _ _ _ h => h) (fun w' hw => by go_simp) hS ?_
   simp only [Act.put, List.setIfInBounds_toArray, List.set_cons_zero, List.set_cons_succ]
   refine takeS (i := 7) (d := 69) (v := .int .i64 (n : Int)) rfl rfl rfl (by kernel_rfl) (by kernel_rfl) (by kernel_rfl) (fun _ _ _ h => h) (fun w' hw => by (have hq := hw.1.c3; simp only [Nat.zero_add] at hq; go_simp)) hS ?_
   simp only [Act.put, List.setIfInBounds_toArray, List.set_cons_zero, List.set_cons_succ]
   refine takeS (i := 9) (d := 71) (v := .pointer (some ⟨X, 0, none⟩)) rfl rfl rfl (by kernel_rfl) (by kernel_rfl) (by kernel_rfl) (fun _ _ _ h => h) (fun w' hw => by go_simp) hS ?_
   simp only [Act.put, List.setIfInBounds_toArray, List.set_cons_zero, List.set_cons_succ]
   refine wpAnyH_ready (rs := [8]) (by kernel_rfl) (by simp) ?_
   refine AllReadyH.cons rfl (fun K hK => ?_) AllReadyH.nil
   go_simp
   refine (HC _ HPY.out).out.mono ?_
   rintro e w2 ⟨rfl, rfl⟩
   refine hK.out _ _ ⟨HAD.out.box, HAD.out.st.c16⟩ (fun hS => ?_)
   clear hK K
   refine takeS (i := 10) (d := 72) (v := .pointer (some ⟨X, a, none⟩)) rfl rfl rfl (by kernel_rfl) (by kernel_rfl) (by kernel_rfl) (fun _ _ _ h => h) (fun w' hw => by go_simp) hS ?_
   simp only [Act.put, List.setIfInBounds_toArray, List.set_cons_zero, List.set_cons_succ]
   refine wpAnyH_ready (rs := [11]) (by kernel_rfl) (by simp) ?_
   refine AllReadyH.cons rfl (fun K hK => ?_) AllReadyH.nil
   rw [if_pos (by rfl)]
   have rad := HAD.out.st.reg (j := a) (by omega)
   have fad := HAD.out.st.free a
   go_simp
   refine hK.out _ _ ⟨HR.out.box, HR.out.st.c16⟩ (fun _ => ?_)
   clear hK K
   refine wpAnyH_done (by kernel_rfl) ?_ _
   go_wp2_with fail
   go_meet
   exact ⟨_, _, _, _, _, _, HR.out, by rw [HE.out]; exact ⟨rfl, by simp, rfl, rfl⟩⟩
  have q10 : (o == 10) = false := by simpa using e10
  have hrk : isReck o := by unfold isReck; omega
  have HE := Lib.hid (reck_exec hrk (a := a) (b := b) (n := n) (m := m) (inp := inp) (s := s))
  by_cases hab : 2 ≤ o ∧ o ≤ 5
  ·have hb15 := HOK.out.regs hab
   have rb := HA.out.st.reg (j := b) (by omega)
   have ib0 : (0 : Int) ≤ (b : Int) := by omega
   have ib1 : (b : Int) < 16 := by omega
   have t1 : decide (2 ≤ o) = true := by simp; omega
   have t2 : decide (o ≤ 5) = true := by simp; omega
   have hz : N ≤ w1.heap.size := by omega
   have HAD := Lib.hid (HA.out.below (Below.refl _ _).drew hz)
   have HC := fun w' => Lib.hid (reckon_any o a b n m (s.r a) (s.r b) pn im left w' hrk HOK.out (hsr a) (hsr b))
   unfold U64Out at HC
   obtain ⟨v, hve⟩ : ∃ v, reck o n m (s.r a) (s.r b) = v := ⟨_, rfl⟩
   rw [hve] at HE
   simp only [hve] at HC
   clear hve
   clear hab
   go_wp2_with fail
   refine wp_region_held_drew (S := fun w' => InsAt w' (X + 1) 0 ⟨o, a, b, n, m⟩ ∧ w'.cell? ⟨X, 16, none⟩ = some (.slice pa pn pc)) (by kernel_rfl) ⟨HAD.out.box, HAD.out.st.c16⟩ (fun hS => ?_)
   refine takeS (i := 0) (d := 35) (v := .pointer (some ⟨X + 1, 1, none⟩)) rfl rfl rfl (by kernel_rfl) (by kernel_rfl) (by kernel_rfl) (fun _ _ _ h => h) (fun w' hw => by go_simp) hS ?_
   simp only [Act.put, List.setIfInBounds_toArray, List.set_cons_zero, List.set_cons_succ]
   refine takeS (i := 1) (d := 36) (v := .int .i64 (a : Int)) rfl rfl rfl (by kernel_rfl) (by kernel_rfl) (by kernel_rfl) (fun _ _ _ h => h) (fun w' hw => by (have hq := hw.1.c1; simp only [Nat.zero_add] at hq; go_simp)) hS ?_
   simp only [Act.put, List.setIfInBounds_toArray, List.set_cons_zero, List.set_cons_succ]
   refine takeM (i := 2) (d := 37) 24 _ (X + 1) 0 #[.int .i64 o, .int .i64 (a : Int), .int .i64 (b : Int), .int .i64 (n : Int), .int .u64 (m : Int)] _ rfl rfl rfl rfl (by rfl) Tryz.underlying24 rfl (by kernel_rfl) (by kernel_rfl) (by kernel_rfl) (by kernel_rfl) (fun _ _ _ h => h) (fun w' h => insR h.1) hS ?_
   simp only [Act.put, List.setIfInBounds_toArray, List.set_cons_zero, List.set_cons_succ]
   refine takeS (i := 3) (d := 38) (v := .int .u64 (s.r a : Int)) rfl rfl rfl (by kernel_rfl) (by kernel_rfl) (by kernel_rfl) (fun _ _ _ h => h) (fun w' hw => by go_simp) hS ?_
   simp only [Act.put, List.setIfInBounds_toArray, List.set_cons_zero, List.set_cons_succ]
   refine takeS (i := 4) (d := 39) (v := .int .u64 (s.r b : Int)) rfl rfl rfl (by kernel_rfl) (by kernel_rfl) (by kernel_rfl) (fun _ _ _ h => h) (fun w' hw => by go_simp) hS ?_
   simp only [Act.put, List.setIfInBounds_toArray, List.set_cons_zero, List.set_cons_succ]
   refine takeS (i := 6) (d := 41) (v := .pointer (some ⟨X, 0, none⟩)) rfl rfl rfl (by kernel_rfl) (by kernel_rfl) (by kernel_rfl) (fun _ _ _ h => h) (fun w' hw => by go_simp) hS ?_
   simp only [Act.put, List.setIfInBounds_toArray, List.set_cons_zero, List.set_cons_succ]
   refine wpAnyH_ready (rs := [5]) (by kernel_rfl) (by simp) ?_
   refine AllReadyH.cons rfl (fun K hK => ?_) AllReadyH.nil
   go_simp
   refine (HC _).out.mono ?_
   rintro e w2 ⟨rfl, hb2⟩
   have HA2 := Lib.hid (HAD.out.below hb2 hz)
   have HR := Lib.hid (HA2.out.setReg hN (j := a) (by omega) v)
   clear hb2
   refine hK.out _ _ ⟨HA2.out.box, HA2.out.st.c16⟩ (fun hS => ?_)
   clear hK K
   refine takeS (i := 7) (d := 42) (v := .pointer (some ⟨X, a, none⟩)) rfl rfl rfl (by kernel_rfl) (by kernel_rfl) (by kernel_rfl) (fun _ _ _ h => h) (fun w' hw => by go_simp) hS ?_
   simp only [Act.put, List.setIfInBounds_toArray, List.set_cons_zero, List.set_cons_succ]
   refine wpAnyH_ready (rs := [8]) (by kernel_rfl) (by simp) ?_
   refine AllReadyH.cons rfl (fun K hK => ?_) AllReadyH.nil
   rw [if_pos (by rfl)]
   have rad := HA2.out.st.reg (j := a) (by omega)
   have fad := HA2.out.st.free a
   go_simp
   refine hK.out _ _ ⟨HR.out.box, HR.out.st.c16⟩ (fun _ => ?_)
   clear hK K
   refine wpAnyH_done (by kernel_rfl) ?_ _
   go_wp2_with fail
   go_meet
   exact ⟨_, _, _, _, _, _, HR.out, by rw [HE.out]; exact ⟨rfl, by simp, rfl, rfl⟩⟩
  ·have hno : ¬ (2 ≤ o ∧ o ≤ 5) := hab
   by_cases h1 : o = 1
   ·have t1 : decide (2 ≤ o) = false := by simp; omega
    have hz : N ≤ w1.heap.size := by omega
    have HAD := Lib.hid (HA.out.below (Below.refl _ _).drew hz)
    have HC := fun w' => Lib.hid (reckon_any o a b n m (s.r a) 0 pn im left w' hrk HOK.out (hsr a) (by omega))
    unfold U64Out at HC
    simp only [reck_b hno n m (s.r a) 0 (s.r b)] at HC
    obtain ⟨v, hve⟩ : ∃ v, reck o n m (s.r a) (s.r b) = v := ⟨_, rfl⟩
    rw [hve] at HE
    simp only [hve] at HC
    clear hve
    clear hno hab h1
    go_wp2_with fail
    refine wp_region_held_drew (S := fun w' => InsAt w' (X + 1) 0 ⟨o, a, b, n, m⟩ ∧ w'.cell? ⟨X, 16, none⟩ = some (.slice pa pn pc)) (by kernel_rfl) ⟨HAD.out.box, HAD.out.st.c16⟩ (fun hS => ?_)
    refine takeS (i := 0) (d := 35) (v := .pointer (some ⟨X + 1, 1, none⟩)) rfl rfl rfl (by kernel_rfl) (by kernel_rfl) (by kernel_rfl) (fun _ _ _ h => h) (fun w' hw => by go_simp) hS ?_
    simp only [Act.put, List.setIfInBounds_toArray, List.set_cons_zero, List.set_cons_succ]
    refine takeS (i := 1) (d := 36) (v := .int .i64 (a : Int)) rfl rfl rfl (by kernel_rfl) (by kernel_rfl) (by kernel_rfl) (fun _ _ _ h => h) (fun w' hw => by (have hq := hw.1.c1; simp only [Nat.zero_add] at hq; go_simp)) hS ?_
    simp only [Act.put, List.setIfInBounds_toArray, List.set_cons_zero, List.set_cons_succ]
    refine takeM (i := 2) (d := 37) 24 _ (X + 1) 0 #[.int .i64 o, .int .i64 (a : Int), .int .i64 (b : Int), .int .i64 (n : Int), .int .u64 (m : Int)] _ rfl rfl rfl rfl (by rfl) Tryz.underlying24 rfl (by kernel_rfl) (by kernel_rfl) (by kernel_rfl) (by kernel_rfl) (fun _ _ _ h => h) (fun w' h => insR h.1) hS ?_
    simp only [Act.put, List.setIfInBounds_toArray, List.set_cons_zero, List.set_cons_succ]
    refine takeS (i := 3) (d := 38) (v := .int .u64 (s.r a : Int)) rfl rfl rfl (by kernel_rfl) (by kernel_rfl) (by kernel_rfl) (fun _ _ _ h => h) (fun w' hw => by go_simp) hS ?_
    simp only [Act.put, List.setIfInBounds_toArray, List.set_cons_zero, List.set_cons_succ]
    refine takeS (i := 4) (d := 39) (v := .int .u64 0) rfl rfl rfl (by kernel_rfl) (by kernel_rfl) (by kernel_rfl) (fun _ _ _ h => h) (fun w' hw => by go_simp) hS ?_
    simp only [Act.put, List.setIfInBounds_toArray, List.set_cons_zero, List.set_cons_succ]
    refine takeS (i := 6) (d := 41) (v := .pointer (some ⟨X, 0, none⟩)) rfl rfl rfl (by kernel_rfl) (by kernel_rfl) (by kernel_rfl) (fun _ _ _ h => h) (fun w' hw => by go_simp) hS ?_
    simp only [Act.put, List.setIfInBounds_toArray, List.set_cons_zero, List.set_cons_succ]
    refine wpAnyH_ready (rs := [5]) (by kernel_rfl) (by simp) ?_
    refine AllReadyH.cons rfl (fun K hK => ?_) AllReadyH.nil
    go_simp
    refine (HC _).out.mono ?_
    rintro e w2 ⟨rfl, hb2⟩
    have HA2 := Lib.hid (HAD.out.below hb2 hz)
    have HR := Lib.hid (HA2.out.setReg hN (j := a) (by omega) v)
    clear hb2
    refine hK.out _ _ ⟨HA2.out.box, HA2.out.st.c16⟩ (fun hS => ?_)
    clear hK K
    refine takeS (i := 7) (d := 42) (v := .pointer (some ⟨X, a, none⟩)) rfl rfl rfl (by kernel_rfl) (by kernel_rfl) (by kernel_rfl) (fun _ _ _ h => h) (fun w' hw => by go_simp) hS ?_
    simp only [Act.put, List.setIfInBounds_toArray, List.set_cons_zero, List.set_cons_succ]
    refine wpAnyH_ready (rs := [8]) (by kernel_rfl) (by simp) ?_
    refine AllReadyH.cons rfl (fun K hK => ?_) AllReadyH.nil
    rw [if_pos (by rfl)]
    have rad := HA2.out.st.reg (j := a) (by omega)
    have fad := HA2.out.st.free a
    go_simp
    refine hK.out _ _ ⟨HR.out.box, HR.out.st.c16⟩ (fun _ => ?_)
    clear hK K
    refine wpAnyH_done (by kernel_rfl) ?_ _
    go_wp2_with fail
    go_meet
    exact ⟨_, _, _, _, _, _, HR.out, by rw [HE.out]; exact ⟨rfl, by simp, rfl, rfl⟩⟩
   ·have t1 : decide (2 ≤ o) = true := by simp; unfold isReck at hrk; omega
    have t2 : decide (o ≤ 5) = false := by simp; unfold isReck at hrk; omega
    have hz : N ≤ w1.heap.size := by omega
    have HAD := Lib.hid (HA.out.below (Below.refl _ _).drew hz)
    have HC := fun w' => Lib.hid (reckon_any o a b n m (s.r a) 0 pn im left w' hrk HOK.out (hsr a) (by omega))
    unfold U64Out at HC
    simp only [reck_b hno n m (s.r a) 0 (s.r b)] at HC
    obtain ⟨v, hve⟩ : ∃ v, reck o n m (s.r a) (s.r b) = v := ⟨_, rfl⟩
    rw [hve] at HE
    simp only [hve] at HC
    clear hve
    clear hno hab h1
    go_wp2_with fail
    refine wp_region_held_drew (S := fun w' => InsAt w' (X + 1) 0 ⟨o, a, b, n, m⟩ ∧ w'.cell? ⟨X, 16, none⟩ = some (.slice pa pn pc)) (by kernel_rfl) ⟨HAD.out.box, HAD.out.st.c16⟩ (fun hS => ?_)
    refine takeS (i := 0) (d := 35) (v := .pointer (some ⟨X + 1, 1, none⟩)) rfl rfl rfl (by kernel_rfl) (by kernel_rfl) (by kernel_rfl) (fun _ _ _ h => h) (fun w' hw => by go_simp) hS ?_
    simp only [Act.put, List.setIfInBounds_toArray, List.set_cons_zero, List.set_cons_succ]
    refine takeS (i := 1) (d := 36) (v := .int .i64 (a : Int)) rfl rfl rfl (by kernel_rfl) (by kernel_rfl) (by kernel_rfl) (fun _ _ _ h => h) (fun w' hw => by (have hq := hw.1.c1; simp only [Nat.zero_add] at hq; go_simp)) hS ?_
    simp only [Act.put, List.setIfInBounds_toArray, List.set_cons_zero, List.set_cons_succ]
    refine takeM (i := 2) (d := 37) 24 _ (X + 1) 0 #[.int .i64 o, .int .i64 (a : Int), .int .i64 (b : Int), .int .i64 (n : Int), .int .u64 (m : Int)] _ rfl rfl rfl rfl (by rfl) Tryz.underlying24 rfl (by kernel_rfl) (by kernel_rfl) (by kernel_rfl) (by kernel_rfl) (fun _ _ _ h => h) (fun w' h => insR h.1) hS ?_
    simp only [Act.put, List.setIfInBounds_toArray, List.set_cons_zero, List.set_cons_succ]
    refine takeS (i := 3) (d := 38) (v := .int .u64 (s.r a : Int)) rfl rfl rfl (by kernel_rfl) (by kernel_rfl) (by kernel_rfl) (fun _ _ _ h => h) (fun w' hw => by go_simp) hS ?_
    simp only [Act.put, List.setIfInBounds_toArray, List.set_cons_zero, List.set_cons_succ]
    refine takeS (i := 4) (d := 39) (v := .int .u64 0) rfl rfl rfl (by kernel_rfl) (by kernel_rfl) (by kernel_rfl) (fun _ _ _ h => h) (fun w' hw => by go_simp) hS ?_
    simp only [Act.put, List.setIfInBounds_toArray, List.set_cons_zero, List.set_cons_succ]
    refine takeS (i := 6) (d := 41) (v := .pointer (some ⟨X, 0, none⟩)) rfl rfl rfl (by kernel_rfl) (by kernel_rfl) (by kernel_rfl) (fun _ _ _ h => h) (fun w' hw => by go_simp) hS ?_
    simp only [Act.put, List.setIfInBounds_toArray, List.set_cons_zero, List.set_cons_succ]
    refine wpAnyH_ready (rs := [5]) (by kernel_rfl) (by simp) ?_
    refine AllReadyH.cons rfl (fun K hK => ?_) AllReadyH.nil
    go_simp
    refine (HC _).out.mono ?_
    rintro e w2 ⟨rfl, hb2⟩
    have HA2 := Lib.hid (HAD.out.below hb2 hz)
    have HR := Lib.hid (HA2.out.setReg hN (j := a) (by omega) v)
    clear hb2
    refine hK.out _ _ ⟨HA2.out.box, HA2.out.st.c16⟩ (fun hS => ?_)
    clear hK K
    refine takeS (i := 7) (d := 42) (v := .pointer (some ⟨X, a, none⟩)) rfl rfl rfl (by kernel_rfl) (by kernel_rfl) (by kernel_rfl) (fun _ _ _ h => h) (fun w' hw => by go_simp) hS ?_
    simp only [Act.put, List.setIfInBounds_toArray, List.set_cons_zero, List.set_cons_succ]
    refine wpAnyH_ready (rs := [8]) (by kernel_rfl) (by simp) ?_
    refine AllReadyH.cons rfl (fun K hK => ?_) AllReadyH.nil
    rw [if_pos (by rfl)]
    have rad := HA2.out.st.reg (j := a) (by omega)
    have fad := HA2.out.st.free a
    go_simp
    refine hK.out _ _ ⟨HR.out.box, HR.out.st.c16⟩ (fun _ => ?_)
    clear hK K
    refine wpAnyH_done (by kernel_rfl) ?_ _
    go_wp2_with fail
    go_meet
    exact ⟨_, _, _, _, _, _, HR.out, by rw [HE.out]; exact ⟨rfl, by simp, rfl, rfl⟩⟩
 case rest =>
  obtain ⟨s', pa', pc', k', fl', sl', hsa, hg⟩ := hcut
  have HSA := Lib.hid hsa
  have HG := Lib.hid hg
  obtain ⟨C, hC⟩ := hsa.out.cells
  have HS : Hid (StIn (wc.setCells (X + 1 + 1) 0 (stA s' (.slice pa' pn pc') (.slice oa im oc) (.slice ha im hc) k' fl' sl').toList) (X + 1 + 1) s' (.slice pa' pn pc') (.slice oa im oc) (.slice ha im hc) k' fl' sl') := Lib.hid (StIn.store hsa.out s' _ _ _ k' fl' sl')
  have HB : Hid (Below N w (wc.setCells (X + 1 + 1) 0 (stA s' (.slice pa' pn pc') (.slice oa im oc) (.slice ha im hc) k' fl' sl').toList)) := Lib.hid (hsa.bel.grown (grownBy_setCells _ _ _ _) (by have := hsa.out.blk; omega) (fun q hq => by have := Option.some.inj hq; omega))
  have HO : Hid (StOwn N pn im (wc.setCells (X + 1 + 1) 0 (stA s' (.slice pa' pn pc') (.slice oa im oc) (.slice ha im hc) k' fl' sl').toList) s' pa' pc' oa oc ha hc) := Lib.hid (hsa.own.grown (grownBy_setCells _ _ _ _) hC)
  have HKP : Hid (∀ q, q < X → oa ≠ some ⟨q, 0, none⟩ → ha ≠ some ⟨q, 0, none⟩ → (wc.setCells (X + 1 + 1) 0 (stA s' (.slice pa' pn pc') (.slice oa im oc) (.slice ha im hc) k' fl' sl').toList).heap[q]? = w.heap[q]?) := Lib.hid (fun q hq h1 h2 => ((grownBy_setCells _ _ _ _).block q (by have := hsa.out.blk; omega) (by simp; omega)).trans (hsa.keep q hq h1 h2))
  have HR := Lib.hid hsa.st.range
  have HT : Hid (wc.there (X + 1 + 1) 0 22) := Lib.hid (CellsAt.there hsa.out (by omega))
  have HON : Hid ((stA s' (.slice pa' pn pc') (.slice oa im oc) (.slice ha im hc) k' fl' sl').all (·.oneCell') = true) := Lib.hid (stA_ones s' pa' oa ha pn pc' im oc im hc k' fl' sl')
  have HSZ : Hid ((stA s' (.slice pa' pn pc') (.slice oa im oc) (.slice ha im hc) k' fl' sl').size = 22) := Lib.hid rfl
  obtain ⟨A, hA⟩ : ∃ A, stA s' (.slice pa' pn pc') (.slice oa im oc) (.slice ha im hc) k' fl' sl' = A := ⟨_, rfl⟩
  have HAE := Lib.hid hA
  rw [hA] at HS HB HO HR HON HSZ HKP
  clear hsa hg hC hA
  go_wp2_with (first
   | refine wpList_load_mid (by rfl) 167 _ (by rfl) X 0 (by rfl) A.toList _ HR.out Tryz.underlying167 (by rfl) (by rw [info167, Array.length_toList, HSZ.out]) ?_
   | refine wpList_store_mid (by rfl) 167 _ _ (by rfl) (X + 1 + 1) 0 A (by rfl) (by rfl) (by rw [HSZ.out]; exact HT.out) (by rw [info167, HSZ.out]) HON.out ?_)
  refine bodyPost_ret (v := .agg A) ?_ rfl ?_
  rotate_left
  ·exact ⟨s', pa', pc', k', fl', sl', by rw [HAE.out], HO.out, HB.out, fun q hq h1 h2 => HKP.out q (by have := HX.out; omega) h1 h2, HG.out⟩
  have hload := run_loadVar_mid (P := Tryz.prog) _ (X + 1 + 1) 0 167 A.toList _ (by have := HS.out.range; rw [HAE.out] at this; exact this) Tryz.underlying167 rfl (by rw [info167, Array.length_toList, HSZ.out])
  exact results_cell Tryz.results108 (by rfl) hload

end Code
end Go.Proofs.YtmpeipdeablkdaaGreatDoor

namespace Go.Proofs.YtmpeipdeablkdaaGreatDoor
open Go.RowKit
namespace Code
open Go.Proofs.YtmpeipdeablkdaaGreatDoor.Code.One
attribute [local go_sem ↓] Go.wp_at_zero Go.wp_at_succ

theorem results_cell3 {fn : Func} {p u x : Tmp} {ty : TypeId} (h : fn.results = #[.cell p ty, .tmp u, .tmp x]) (tmps : Array Value) (P : Program) (w : World) :
    (results fn tmps).run P w = ((asAddr (tmps.getD p undef)).run P w).andThen fun a w₁ => ((loadVar ty a).run P w₁).andThen fun v w₂ => .ok (.tuple #[v, tmps.getD u undef, tmps.getD x undef]) w₂ := by
 simp only [results, h]
 simp [Sem.run_bind, Result.andThen]

theorem info52 : (Tryz.prog.info? 52).map (·.size) = some 6 := by kernel_rfl

theorem ret_ran {fn : Func} {p u x : Nat} (hr : fn.results = #[.cell p 52, .tmp u, .tmp x]) {tmps : Array Value} {wz : World} {R : Nat} {C : Array Value} {va vb : Value} (hp : tmps.getD p undef = .pointer (some ⟨R, 0, none⟩)) (hu : tmps.getD u undef = va) (hx : tmps.getD x undef = vb) (hC : wz.rangeAt R 0 C.toList) (hs : C.size = 6) :
    (results fn tmps).run Tryz.prog wz = .ok (.tuple #[.agg C, va, vb]) wz := by
 rw [results_cell3 hr, hp, hu, hx]
 have hload := run_loadVar_mid (P := Tryz.prog) wz R 0 52 C.toList _ hC Tryz.underlying52 rfl (by rw [info52, Array.length_toList, hs])
 simp only [asAddr, Sem.run_pure, Result.andThen]
 rw [hload]

theorem ran_there {w : World} {b : Nat} {C : Array Value} {t : TypeId} (h : w.heap[b]? = some (.cells C t (0, 0))) (hs : C.size = 6) : w.there b 0 6 := fun j hj => ⟨by rw [cell_of_row _ _ _ _ _ _ h, Array.getElem?_eq_getElem (by omega)]; rfl, frozen_blk h⟩

theorem still_mid {op : Oper} {a : Act} {w : World} {K : Act → Prop} (ty : TypeId) (x : Operand) (ho : op.op = .load ty x) (b o : Nat) (hx : a.eval x = .pointer (some ⟨b, o, none⟩)) (cs : List Value) (d : TypeDesc) (hc : w.rangeAt b o cs)
    (hu : Tryz.prog.underlying ty = some d) (hd : d.isRow = true) (hi : (Tryz.prog.info? ty).map (·.size) = some cs.length) (h : K (a.put op.dst (.agg cs.toArray))) : op.still Tryz.prog a w K := by
 unfold Oper.still
 have e : (execOp a.eval op).run Tryz.prog w = .ok (.value (.agg cs.toArray)) w := by
  unfold execOp
  simp only [ho, hx, Instr.loadAt, Instr.sureAddr, Sem.run_bind, Sem.run_pure, Result.andThen_ok, run_loadVar_mid w b o ty cs d hc hu hd hi]
 rw [e, Oper.stillUpon_value]
 exact h

theorem exec_stok {x : B.Ins} {pn im left : Nat} (hr : x.right = true) {a b n m : Nat} {o : Int} (hx : x = ⟨o, a, b, n, m⟩) (hok : B.OpOk o a b n m pn im left) {s t : B.St} {d : Nat} {inp : List Nat} (hs : B.StOk pn im s) (hi : B.Words inp) (h : x.exec inp s = .go d t) : B.StOk pn im t := by
 have hv := B.val_lt hr hs hi
 unfold B.Ins.exec at h
 by_cases h1 : x.isW = true
 ·rw [if_pos h1] at h; cases h; exact hs.set _ _ hv
 ·rw [if_neg h1] at h
  by_cases h2 : x.lays = true
  ·rw [if_pos h2] at h; cases h
   have ho : 11 ≤ o ∧ o ≤ 13 := by unfold B.Ins.lays at h2; rw [hx] at h2; simpa using h2
   have hb := hok.bytes (by omega)
   have hl := B.lay_ok (x := x) hs (by rw [hx]; simp only [Int.toNat_natCast]; omega)
   exact hs.lay _ hl.1 hl.2
  ·rw [if_neg h2] at h
   split at h
   ·cases h
   ·split at h
    ·cases h; exact hs.hand _ _ (hs.reg _)
    ·split at h
     ·split at h
      ·cases h; exact hs
      ·cases h
     ·split at h
      ·cases h; exact hs
      ·split at h
       ·cases h; exact hs
       ·cases h; exact hs

theorem exec_left {x : B.Ins} {pn im left : Nat} {a b n m : Nat} {o : Int} (hx : x = ⟨o, a, b, n, m⟩) (hok : B.OpOk o a b n m pn im left) {s t : B.St} {d : Nat} {inp : List Nat} (h : x.exec inp s = .go d t) : d ≤ left := by
 unfold B.Ins.exec at h
 have hj := hok.jump
 have hn : x.n.toNat = n := by rw [hx]; rfl
 have ho : x.op = o := by rw [hx]
 split at h
 ·cases h; omega
 split at h
 ·cases h; omega
 split at h
 ·cases h
 split at h
 ·cases h; omega
 split at h
 ·split at h
  ·cases h; omega
  ·cases h
 split at h
 ·cases h; have := hj (by omega); omega
 split at h
 ·have := hj (by omega)
  cases h
  split <;> omega
 ·cases h; omega

section
variable {w w' : World} {b : Nat} {s : B.St} {pv ov hv : Value} {k : Int} {fl : Bool} {sl : Int}
theorem StIn.set17 (h : StIn w b s pv ov hv k fl sl) (v : Value) : StIn (w.setCell ⟨b, 17, none⟩ v) b s pv v hv k fl sl := by
 refine (CellsAt.set h 17 v).congr (fun i hi => ?_)
 rcases lt22 hi with h | rfl | rfl | rfl | rfl | rfl | rfl
 ·rw [if_neg (by omega)]; unfold stF; rw [if_pos h, if_pos h]
 all_goals rfl
theorem StIn.set18 (h : StIn w b s pv ov hv k fl sl) (v : Value) : StIn (w.setCell ⟨b, 18, none⟩ v) b s pv ov v k fl sl := by
 refine (CellsAt.set h 18 v).congr (fun i hi => ?_)
 rcases lt22 hi with h | rfl | rfl | rfl | rfl | rfl | rfl
 ·rw [if_neg (by omega)]; unfold stF; rw [if_pos h, if_pos h]
 all_goals rfl
end

theorem OwnV.cellStore {E : TypeId} {w : World} {N n c : Nat} {a : Option Addr} {vs : List Value} (h : OwnV E w N a n c vs) {g : Nat} {C : Array Value} {T : TypeId} (hg : w.heap[g]? = some (.cells C T (0, 0))) (hne : E ≠ T) (j : Nat) (v : Value) : OwnV E (w.setCell ⟨g, j, none⟩ v) N a n c vs :=
 h.keep (fun q hq => blk_other v (fun e => by simp only at e; subst e; exact own_ne h.own hg hne (by rw [hq]; rfl)))

/-- a run, so far -/
structure RunAt (N pn im : Nat) (ps : List B.Ins) (inp : List Nat) (s0 : B.St) (S k n : Nat) (s : B.St) (pa : Option Addr) (pc : Nat) (oa : Option Addr) (oc : Nat) (ha : Option Addr) (hc : Nat) (fl : Bool) (sl : Int) (w wr : World) : Prop where
 st : StIn wr S s (.slice pa pn pc) (.slice oa im oc) (.slice ha im hc) k fl sl
 own : StOwn N pn im wr s pa pc oa oc ha hc
 bel : Below N w wr
 live : (fl = false ∧ sl = 0 ∧ k ≤ ps.length ∧ n ≤ k ∧ B.StOk pn im s ∧ B.RunTo ps inp s0 k s n) ∨ (k = ps.length ∧ n ≤ ps.length ∧ B.StOk pn im s ∧ B.run ps inp 0 s0 = ⟨if fl then some sl else none, s, n⟩)

/-- lists that are being made -/
structure MadeAt (N S pn i : Nat) (pay : List Nat) (pa : Option Addr) (pc : Nat) (oa : Option Addr) (oc : Nat) (ha : Option Addr) (hc : Nat) (w wr : World) : Prop where
 st : StIn wr S zSt (.slice pa pn pc) (.slice oa i oc) (.slice ha i hc) 0 false 0
 pay : OwnV 5 wr N pa pn pc (pay.map u8V)
 out : OwnV 22 wr N oa i oc ((List.replicate i 0).map u64V)
 has : OwnV 4 wr N ha i hc ((List.replicate i false).map Value.bool)
 bel : Below N w wr

/-- a run's answer, as the document tells it -/
def RefRunOut (r : B.Out) (w : World) (e : Ending) (w' : World) : Prop :=
 ∃ a1 c1 a2 c2 a3 c3, e = .returned (.tuple #[.agg #[.bool (fl r), .int .i64 (slotOf r), .slice a1 (payL r).length c1, .slice a2 (outL r).length c2, .slice a3 (hasL r).length c3, .int .i64 (r.steps : Int)], .int .i64 0, .int .i64 (-1)]) ∧
  ListAt w' a1 (payL r).length ((payL r).map u8V) ∧ ListAt w' a2 (outL r).length ((outL r).map u64V) ∧ ListAt w' a3 (hasL r).length ((hasL r).map Value.bool) ∧ Below w.heap.size w w'

/-- the answer of a program that may not be run -/
def RefRunNo (p : Int × Option Nat) (w : World) (e : Ending) (w' : World) : Prop :=
 e = .returned (.tuple #[.agg #[.bool false, .int .i64 0, .slice none 0 0, .slice none 0 0, .slice none 0 0, .int .i64 0], .int .i64 p.1, .int .i64 (match p.2 with | some i => (i : Int) | none => -1)]) ∧ Below w.heap.size w w'

set_option maxRecDepth 100000 in
set_option maxHeartbeats 6400000 in
theorem rrun_no (a pa ia : Option Addr) (len cap pn pc im ic : Nat) (ps : List B.Ins) (w : World) (hp : ProgAt w a len ps) (hwf : ∀ y ∈ ps, y.Wf) (hr : len ≤ 9223372036854775807) (hm : ¬ B.MayRun ps pn im) :
    Calls Tryz.prog 70 #[.slice a len cap, .slice pa pn pc, .slice ia im ic] w (RefRunNo (B.program ps pn im) w) := by
 have HRF := fun w' (h : ProgAt w' a len ps) => Lib.hid (refprog_any a len cap ps pn im w' h hwf hr)
 have hrg := program_range ps pn im
 have hne : (B.program ps pn im).1 ≠ 0 := by
  intro h
  have := progEr_no hm
  unfold progEr erOf at this
  rw [if_pos h] at this
  simp [Er.isNil] at this
 unfold RefProgOut at HRF
 obtain ⟨p, hpe⟩ : ∃ p, B.program ps pn im = p := ⟨_, rfl⟩
 rw [hpe] at hne hrg
 simp only [hpe] at HRF
 rw [hpe]
 clear hpe hm
 obtain ⟨no, o⟩ := p
 unfold refOut at HRF
 simp only at HRF hne hrg
 have HP := Lib.hid hp
 have q0 : (no != 0) = true := by simpa using hne
 unfold RefRunNo
 have HBW : Hid (Below w.heap.size w (w.alloc (.cells #[.bool false, .int .i64 0, .slice none 0 0, .slice none 0 0, .slice none 0 0, .int .i64 0] 52))) := Lib.hid ((Below.refl _ _).alloc (Nat.le_refl _) _)
 have HC0 : Hid ((w.alloc (.cells #[.bool false, .int .i64 0, .slice none 0 0, .slice none 0 0, .slice none 0 0, .int .i64 0] 52)).heap[w.heap.size]? = some (.cells #[.bool false, .int .i64 0, .slice none 0 0, .slice none 0 0, .slice none 0 0, .int .i64 0] 52 (0, 0))) := Lib.hid (heap_alloc_new w _)
 clear hne hrg hp
 cases o with
 | none =>
  go_enter Tryz.func70, Tryz.ntmps70
  go_wp2_with fail
  refine (HRF _ (HP.out.below HBW.out (Nat.le_refl _))).out.mono ?_
  rintro e w1 ⟨rfl, hb1⟩
  have HB1 := Lib.hid (HBW.out.trans (hb1.mono (by simp)))
  have hG := (hb1.block w.heap.size (by simp)).trans HC0.out
  have HTH : Hid (w1.there w.heap.size 0 6) := Lib.hid (ran_there hG rfl)
  have HRG : Hid ((w1.setCells w.heap.size 0 (#[.bool false, .int .i64 0, .slice none 0 0, .slice none 0 0, .slice none 0 0, .int .i64 0] : Array Value).toList).rangeAt w.heap.size 0 (#[.bool false, .int .i64 0, .slice none 0 0, .slice none 0 0, .slice none 0 0, .int .i64 0] : Array Value).toList) := Lib.hid (World.rangeAt_setCells_same _ _ _ _ HTH.out)
  have HB2 : Hid (Below w.heap.size w (w1.setCells w.heap.size 0 (#[.bool false, .int .i64 0, .slice none 0 0, .slice none 0 0, .slice none 0 0, .int .i64 0] : Array Value).toList)) := Lib.hid (HB1.out.grown (grownBy_setCells _ _ _ _) (by have := HB1.out.size; omega) (fun q hq => by have := Option.some.inj hq; omega))
  clear hb1 hG
  go_wp2_with (refine wpList_store_mid (by rfl) 52 _ _ (by rfl) w.heap.size 0 #[.bool false, .int .i64 0, .slice none 0 0, .slice none 0 0, .slice none 0 0, .int .i64 0] (by rfl) (by rfl) HTH.out (by rw [info52]; rfl) (by simp [Value.oneCell']) ?_)
  refine bodyPost_ret (v := .tuple #[.agg #[.bool false, .int .i64 0, .slice none 0 0, .slice none 0 0, .slice none 0 0, .int .i64 0], .int .i64 no, .int .i64 (-1)]) ?_ rfl ⟨rfl, HB2.out⟩
  exact ret_ran Tryz.results70 (by rfl) (by rfl) (by rfl) HRG.out rfl
 | some i =>
  go_enter Tryz.func70, Tryz.ntmps70
  go_wp2_with fail
  refine (HRF _ (HP.out.below HBW.out (Nat.le_refl _))).out.mono ?_
  rintro e w1 ⟨rfl, hb1⟩
  have HB1 := Lib.hid (HBW.out.trans (hb1.mono (by simp)))
  have hG := (hb1.block w.heap.size (by simp)).trans HC0.out
  have HTH : Hid (w1.there w.heap.size 0 6) := Lib.hid (ran_there hG rfl)
  have HRG : Hid ((w1.setCells w.heap.size 0 (#[.bool false, .int .i64 0, .slice none 0 0, .slice none 0 0, .slice none 0 0, .int .i64 0] : Array Value).toList).rangeAt w.heap.size 0 (#[.bool false, .int .i64 0, .slice none 0 0, .slice none 0 0, .slice none 0 0, .int .i64 0] : Array Value).toList) := Lib.hid (World.rangeAt_setCells_same _ _ _ _ HTH.out)
  have HB2 : Hid (Below w.heap.size w (w1.setCells w.heap.size 0 (#[.bool false, .int .i64 0, .slice none 0 0, .slice none 0 0, .slice none 0 0, .int .i64 0] : Array Value).toList)) := Lib.hid (HB1.out.grown (grownBy_setCells _ _ _ _) (by have := HB1.out.size; omega) (fun q hq => by have := Option.some.inj hq; omega))
  clear hb1 hG
  go_wp2_with (refine wpList_store_mid (by rfl) 52 _ _ (by rfl) w.heap.size 0 #[.bool false, .int .i64 0, .slice none 0 0, .slice none 0 0, .slice none 0 0, .int .i64 0] (by rfl) (by rfl) HTH.out (by rw [info52]; rfl) (by simp [Value.oneCell']) ?_)
  refine bodyPost_ret (v := .tuple #[.agg #[.bool false, .int .i64 0, .slice none 0 0, .slice none 0 0, .slice none 0 0, .int .i64 0], .int .i64 no, .int .i64 (i : Int)]) ?_ rfl ⟨rfl, HB2.out⟩
  exact ret_ran Tryz.results70 (by rfl) (by rfl) (by rfl) HRG.out rfl

set_option maxRecDepth 100000 in
set_option maxHeartbeats 25600000 in
theorem rrun_yes (a pa ia : Option Addr) (len cap pn pc im ic : Nat) (ps : List B.Ins) (pay inp : List Nat) (w : World) (hp : ProgAt w a len ps) (hwf : ∀ y ∈ ps, y.Wf) (hr : len ≤ 9223372036854775807) (hm : B.MayRun ps pn im)
    (hpay : ListAt w pa pn (pay.map u8V)) (hinp : ListAt w ia im (inp.map u64V)) (hby : B.Bytes pay) (hwi : B.Words inp) :
    Calls Tryz.prog 70 #[.slice a len cap, .slice pa pn pc, .slice ia im ic] w (RefRunOut (B.run ps inp 0 (B.start pay im)) w) := by
 have HRF := fun w' (h : ProgAt w' a len ps) => Lib.hid (refprog_any a len cap ps pn im w' h hwf hr)
 unfold RefProgOut at HRF
 simp only [(B.program_ok _ _ _).2 hm] at HRF
 unfold refOut at HRF
 simp only at HRF
 have HP := Lib.hid hp
 have HM := Lib.hid hm
 have HPY := Lib.hid hpay
 have HIN := Lib.hid hinp
 have HBY := Lib.hid hby
 have HWI := Lib.hid hwi
 have hp8 : pn ≤ 8 := by have := hm.hsize; omega
 have hi64 : im ≤ 64 := by have := hm.hslots; omega
 have HLN : Hid (len = ps.length) := Lib.hid hp.len
 have hlm : len ≤ 16384 := by have := hm.len; have := hp.len; omega
 have HPN : Hid (pn = pay.length) := Lib.hid (by simpa using hpay.len)
 obtain ⟨r, hre⟩ : ∃ r, B.run ps inp 0 (B.start pay im) = r := ⟨_, rfl⟩
 rw [hre]
 have HRE := Lib.hid hre
 have HBW : Hid (Below w.heap.size w (w.alloc (.cells #[.bool false, .int .i64 0, .slice none 0 0, .slice none 0 0, .slice none 0 0, .int .i64 0] 52))) := Lib.hid ((Below.refl _ _).alloc (Nat.le_refl _) _)
 have HC0 : Hid ((w.alloc (.cells #[.bool false, .int .i64 0, .slice none 0 0, .slice none 0 0, .slice none 0 0, .int .i64 0] 52)).heap[w.heap.size]? = some (.cells #[.bool false, .int .i64 0, .slice none 0 0, .slice none 0 0, .slice none 0 0, .int .i64 0] 52 (0, 0))) := Lib.hid (heap_alloc_new w _)
 clear hp hm hpay hinp hby hwi hre hr hwf
 go_enter Tryz.func70, Tryz.ntmps70
 go_wp2_with fail
 refine (HRF _ (HP.out.below HBW.out (Nat.le_refl _))).out.mono ?_
 rintro e w1 ⟨rfl, hb1⟩
 have HB1 := Lib.hid (HBW.out.trans (hb1.mono (by simp)))
 have HG1 := Lib.hid ((hb1.block w.heap.size (by simp)).trans HC0.out)
 have hs1 : w.heap.size + 1 ≤ w1.heap.size := by have := hb1.size; simpa using this
 clear hb1 HRF HBW HC0
 go_wp2_with fail
 refine (copyB_any pa pn pc pay _ (HPY.out.below HB1.out (Nat.le_refl _)) (by omega)).mono ?_
 rintro e w2 ⟨ca, cc, rfl, hown, hb2⟩
 rw [← HPN.out] at hown ⊢
 have HB2 := Lib.hid (HB1.out.trans (hb2.mono (by omega)))
 have HG2 := Lib.hid ((hb2.block w.heap.size (by omega)).trans HG1.out)
 have hs2 : w1.heap.size ≤ w2.heap.size := hb2.size
 have HZ0 : Hid (StIn (w2.alloc (.cells (stA zSt (.slice none 0 0) (.slice none 0 0) (.slice none 0 0) 0 false 0) 167)) w2.heap.size zSt (.slice none 0 0) (.slice none 0 0) (.slice none 0 0) 0 false 0) := Lib.hid (StIn.new zSt _ _ _ 0 false 0 w2)
 have HTH : Hid ((w2.alloc (.cells (stA zSt (.slice none 0 0) (.slice none 0 0) (.slice none 0 0) 0 false 0) 167)).there w2.heap.size 0 22) := Lib.hid (CellsAt.there HZ0.out (by omega))
 have HMD : Hid (MadeAt (w.heap.size + 1) w2.heap.size pn 0 pay ca cc none 0 none 0 w2 ((w2.alloc (.cells (stA zSt (.slice none 0 0) (.slice none 0 0) (.slice none 0 0) 0 false 0) 167)).setCells w2.heap.size 0 (stA zSt (.slice ca pn cc) (.slice none 0 0) (.slice none 0 0) 0 false 0).toList)) := by
  have hb : Below w2.heap.size w2 ((w2.alloc (.cells (stA zSt (.slice none 0 0) (.slice none 0 0) (.slice none 0 0) 0 false 0) 167)).setCells w2.heap.size 0 (stA zSt (.slice ca pn cc) (.slice none 0 0) (.slice none 0 0) 0 false 0).toList) := ((Below.refl _ _).alloc (Nat.le_refl _) _).grown (grownBy_setCells _ _ _ _) (by simp) (fun q hq => by have := Option.some.inj hq; omega)
  exact Lib.hid ⟨StIn.store HZ0.out _ _ _ _ _ _ _, (hown.weaken (by omega)).kept hb, OwnV.nil _ _ _, OwnV.nil _ _ _, hb.mono (by omega)⟩
 clear hown hb2 HB1 HG1 HPY HZ0
 go_wp2_with (refine wpList_store_mid (by rfl) 167 _ _ (by rfl) w2.heap.size 0 (stA zSt (.slice ca pn cc) (.slice none 0 0) (.slice none 0 0) 0 false 0) (by rfl) (by rfl) HTH.out (by rw [info167]; rfl) (stA_ones zSt ca none none pn cc 0 0 0 0 0 false 0) ?_)
 obtain ⟨w3, hw3⟩ : ∃ w3, (w2.alloc (.cells (stA zSt (.slice none 0 0) (.slice none 0 0) (.slice none 0 0) 0 false 0) 167)).setCells w2.heap.size 0 (stA zSt (.slice ca pn cc) (.slice none 0 0) (.slice none 0 0) 0 false 0).toList = w3 := ⟨_, rfl⟩
 rw [hw3] at HMD
 rw [show (w2.alloc (.cells #[.int .u64 0, .int .u64 0, .int .u64 0, .int .u64 0, .int .u64 0, .int .u64 0, .int .u64 0, .int .u64 0, .int .u64 0, .int .u64 0, .int .u64 0, .int .u64 0, .int .u64 0, .int .u64 0, .int .u64 0, .int .u64 0, .slice none 0 0, .slice none 0 0, .slice none 0 0, .int .i64 0, .bool false, .int .i64 0] 167)).setCells w2.heap.size 0 (stA zSt (.slice ca pn cc) (.slice none 0 0) (.slice none 0 0) 0 false 0).toList = w3 from hw3]
 clear hw3 HTH
 have hSN : w.heap.size + 1 ≤ w2.heap.size := by omega
 have hSl := lt_of_block HG2.out
 obtain ⟨S, hS⟩ : ∃ S, w2.heap.size = S := ⟨_, rfl⟩
 obtain ⟨N, hN⟩ : ∃ N, w.heap.size + 1 = N := ⟨_, rfl⟩
 rw [hS, hN] at HMD
 rw [hS] at hSl
 rw [hS, hN] at hSN
 rw [hS]
 have HSE := Lib.hid hS
 have HNE := Lib.hid hN
 clear hS hN hs1 hs2
 go_loopw [12] (fun v wr => ∃ (i : Nat) (oa : Option Addr) (oc : Nat) (ha : Option Addr) (hc : Nat), i ≤ im ∧ v = .int .i64 (i : Int) ∧ MadeAt N S pn i pay ca cc oa oc ha hc w2 wr) (fun v _ => im - (intOf v).toNat)
 case atStart => exact ⟨0, none, 0, none, 0, by omega, rfl, HMD.out⟩
 case round =>
  obtain ⟨i, oa, oc, ha, hc, hi, rfl, hmd⟩ := hrel
  have HMA := Lib.hid hmd
  have hsz : S ≤ wr.heap.size := by have := hmd.st.blk; omega
  have c17 := hmd.st.c17
  have f17 := hmd.st.free 17
  obtain ⟨CS, hCS⟩ : ∃ C, wr.heap[S]? = some (.cells C 167 (0, 0)) := by
   obtain ⟨C, h1, _⟩ := hmd.st
   exact ⟨C, h1⟩
  have HCS := Lib.hid hCS
  clear hmd HMD hCS
  by_cases hlt : i < im
  ·have hoS : Hid (oa ≠ some ⟨S, 0, none⟩) := Lib.hid (fun e => by have := HMA.out.out.own; rw [e] at this; exact own_ne this HCS.out (by decide) rfl)
   have hhS : Hid (ha ≠ some ⟨S, 0, none⟩) := Lib.hid (fun e => by have := HMA.out.has.own; rw [e] at this; exact own_ne this HCS.out (by decide) rfl)
   have HOUT := Lib.hid HMA.out.out
   have hNr : N ≤ wr.heap.size := by omega
   go_upto_region 9 with (at_builtin; refine app_one Tryz.underlying33 infoEN rfl rfl _ _ rfl N rfl HOUT.out rfl rfl (by omega) (by omega) hNr ?_; intro oa' oc' w4 hown4 hk4 hat4 hb4; have hst4 := HMA.out.st.of (hk4 S HMA.out.st.blk hoS.out); have c17' := hst4.c17; have f17' := hst4.free 17)
   have HST4 := Lib.hid (hst4.set17 (.slice oa' (i + 1) oc'))
   obtain ⟨CS4, hCS4⟩ : ∃ C, w4.heap[S]? = some (.cells C 167 (0, 0)) := ⟨CS, (hk4 S HMA.out.st.blk hoS.out).trans HCS.out⟩
   have HO4 : Hid (OwnV 22 (w4.setCell ⟨S, 17, none⟩ (.slice oa' (i + 1) oc')) N oa' (i + 1) oc' ((List.replicate (i + 1) 0).map u64V)) := Lib.hid (by
    have e : (List.replicate (i + 1) 0).map u64V = (List.replicate i 0).map u64V ++ [.int .u64 0] := by rw [List.replicate_succ', List.map_append]; rfl
    rw [e]; exact OwnV.cellStore hown4 hCS4 (by decide) 17 _)
   have hltW : ∀ {E : TypeId} {a : Option Addr} {n c : Nat} {vs : List Value}, OwnV E wr N a n c vs → E ≠ 22 → E ≠ 167 → OwnV E (w4.setCell ⟨S, 17, none⟩ (.slice oa' (i + 1) oc')) N a n c vs := by
    intro E a n c vs h he hT
    refine OwnV.cellStore (h.keep (fun q hq => hk4 q ?_ ?_)) hCS4 hT 17 _
    ·have := h.own; rw [hq] at this; exact (this.lt q rfl).2
    ·intro e
     have h2 := h.own
     have h3 := HMA.out.out.own
     rw [hq] at h2
     rw [e] at h3
     exact own_own_ne h2 h3 he (b := q) rfl rfl
   have HH4 := Lib.hid (hltW HMA.out.has (by decide) (by decide))
   have HP4 := Lib.hid (hltW HMA.out.pay (by decide) (by decide))
   have HB4 : Hid (Below N w2 (w4.setCell ⟨S, 17, none⟩ (.slice oa' (i + 1) oc'))) := Lib.hid ((HMA.out.bel.trans hb4).setCell (p := ⟨S, 17, none⟩) (by show N ≤ S; omega) _)
   have hs4 : wr.heap.size ≤ w4.heap.size := hb4.size
   obtain ⟨w5, hw5⟩ : ∃ w5, w4.setCell ⟨S, 17, none⟩ (.slice oa' (i + 1) oc') = w5 := ⟨_, rfl⟩
   rw [hw5] at HST4 HO4 HH4 HP4 HB4 ⊢
   have hs5 : w5.heap.size = w4.heap.size := by rw [← hw5]; simp
   have hCS5 : ∃ C, w5.heap[S]? = some (.cells C 167 (0, 0)) := by
    obtain ⟨C, h1, _⟩ := HST4.out
    exact ⟨C, h1⟩
   clear hw5 hown4 hk4 hat4 hb4 hst4 c17' f17' hCS4 hltW
   obtain ⟨CS5, hCS5⟩ := hCS5
   have c18 := HST4.out.c18
   have f18 := HST4.out.free 18
   have hhS5 : Hid (ha ≠ some ⟨S, 0, none⟩) := hhS
   have hNr5 : N ≤ w5.heap.size := by omega
   have HCS5 := Lib.hid hCS5
   clear c17 f17 hCS5 hs5 hs4
   go_wp2_with (at_builtin; refine app_one Tryz.underlying50 infoEO rfl rfl _ _ rfl N rfl HH4.out rfl rfl (by omega) (by omega) hNr5 ?_; intro ha' hc' w6 hown6 hk6 hat6 hb6; have hst6 := HST4.out.of (hk6 S HST4.out.blk hhS5.out); have c18' := hst6.c18; have f18' := hst6.free 18)
   have HST6 := Lib.hid (hst6.set18 (.slice ha' (i + 1) hc'))
   have hCS6 : w6.heap[S]? = some (.cells CS5 167 (0, 0)) := (hk6 S HST4.out.blk hhS5.out).trans HCS5.out
   have HH6 : Hid (OwnV 4 (w6.setCell ⟨S, 18, none⟩ (.slice ha' (i + 1) hc')) N ha' (i + 1) hc' ((List.replicate (i + 1) false).map Value.bool)) := Lib.hid (by
    have e : (List.replicate (i + 1) false).map Value.bool = (List.replicate i false).map Value.bool ++ [.bool false] := by rw [List.replicate_succ', List.map_append]; rfl
    rw [e]; exact OwnV.cellStore hown6 hCS6 (by decide) 18 _)
   have hltW : ∀ {E : TypeId} {a : Option Addr} {n c : Nat} {vs : List Value}, OwnV E w5 N a n c vs → E ≠ 4 → E ≠ 167 → OwnV E (w6.setCell ⟨S, 18, none⟩ (.slice ha' (i + 1) hc')) N a n c vs := by
    intro E a n c vs h he hT
    refine OwnV.cellStore (h.keep (fun q hq => hk6 q ?_ ?_)) hCS6 hT 18 _
    ·have := h.own; rw [hq] at this; exact (this.lt q rfl).2
    ·intro e
     have h2 := h.own
     have h3 := HH4.out.own
     rw [hq] at h2
     rw [e] at h3
     exact own_own_ne h2 h3 he (b := q) rfl rfl
   have HM6 : Hid (MadeAt N S pn (i + 1) pay ca cc oa' oc' ha' hc' w2 (w6.setCell ⟨S, 18, none⟩ (.slice ha' (i + 1) hc'))) := Lib.hid ⟨HST6.out, hltW HP4.out (by decide) (by decide), hltW HO4.out (by decide) (by decide), HH6.out, (HB4.out.trans hb6).setCell (p := ⟨S, 18, none⟩) (by show N ≤ S; omega) _⟩
   clear hown6 hk6 hat6 hb6 hst6 c18' f18' hCS6 hltW
   go_roundw
   case rel => exact ⟨i + 1, oa', oc', ha', hc', by omega, by go_num, HM6.out⟩
   case measure => simp [intOf]; omega
  ·obtain rfl : i = im := by omega
   have HRA : Hid (RunAt N pn i ps inp (B.start pay i) S 0 0 (B.start pay i) ca cc oa oc ha hc false 0 w2 wr) := Lib.hid ⟨HMA.out.st.congr (fun _ _ => rfl), ⟨HMA.out.pay, HMA.out.out, HMA.out.has⟩, HMA.out.bel, .inl ⟨rfl, rfl, Nat.zero_le _, Nat.le_refl _, by have h := B.start_ok i HBY.out; rw [← HPN.out] at h; exact h, B.RunTo.zero _ _ _⟩⟩
   clear HMA c17 f17 HCS hlt hi
   go_wp2_with fail
   go_loopw [13] (fun v wy => ∃ (k n : Nat) (s : B.St) (pa' : Option Addr) (pc' : Nat) (fl : Bool) (sl : Int), v = .int .i64 (n : Int) ∧ RunAt N pn i ps inp (B.start pay i) S k n s pa' pc' oa oc ha hc fl sl w2 wy) (fun v _ => len + 1 - (intOf v).toNat)
   case atStart => exact ⟨0, 0, _, _, _, _, _, rfl, HRA.out⟩
   case round =>
    obtain ⟨k, n, s, pa', pc', fl, sl, rfl, hra⟩ := hrel
    have HRA2 := Lib.hid hra
    have c19 := hra.st.c19
    have hws : S < wr.heap.size := hra.st.blk
    clear hra HRA
    by_cases hlt : k < len
    ·obtain ⟨rfl, rfl, hk, hnk, hst, hrt⟩ : fl = false ∧ sl = 0 ∧ k ≤ ps.length ∧ n ≤ k ∧ B.StOk pn i s ∧ B.RunTo ps inp (B.start pay i) k s n := by
       rcases HRA2.out.live with h | ⟨h, _⟩
       ·exact h
       ·have := HLN.out; omega
     have hx : ps[k]? = some (ps[k]'(by have := HLN.out; omega)) := List.getElem?_eq_getElem _
     generalize ps[k]'(by have := HLN.out; omega) = x at hx
     obtain ⟨b, off, rfl, hbl, hat⟩ := HP.out.at_ k x hx
     have hrx := HM.out.ok.right k x hx
     obtain ⟨an, bn, nn, mm, hxe, hok⟩ := B.op_ok (size := pn) (slots := i) (left := len - k - 1) hrx (by have := HM.out.ok.touch k x hx; rw [show ((len - k - 1 : Nat) : Int) = (ps.length : Int) - k - 1 by have := HLN.out; omega]; exact this)
     have ho := (B.right_bounds hrx).1
     have HOKX := Lib.hid hok
     have HSTX := Lib.hid hst
     have HXX := Lib.hid hx
     have HXE := Lib.hid hxe
     have HRX := Lib.hid hrx
     have HRT := Lib.hid hrt
     have hbn : b < N := by have := HNE.out; omega
     have hat2 := (hat.below HB2.out hbl).below HRA2.out.bel hbn
     have HRI := Lib.hid (insR hat2)
     have HRS := Lib.hid HRA2.out.st.range
     have hNw : N ≤ wr.heap.size := by omega
     have HCALL := Lib.hid (step_any N pn i x.op an bn nn mm (len - k - 1) s pa' pc' oa oc ha hc k ia ic inp (len : Int) wr.drew ho hok (by omega) (by omega) hst (HRA2.out.own.kept (Below.refl _ _).drew) hNw ((HIN.out.below (HB2.out.trans (HRA2.out.bel.mono (by have := HNE.out; omega))) (Nat.le_refl _)).drew) HWI.out hp8)
     unfold StepOut at HCALL
     rw [← hxe] at HCALL
     rw [hxe] at HRI
     obtain ⟨o, hoe⟩ : ∃ o, x.op = o := ⟨_, rfl⟩
     rw [hoe] at HCALL HRI HXE HOKX
     have k0 : (0 : Int) ≤ (k : Int) := by omega
     have k1 : (k : Int) < (len : Int) := by omega
     have k2 : decide (k < len) = true := by simpa using hlt
     have k3 : decide (n ≤ len) = true := by simp; omega
     have HSS : Hid (∃ C, wr.heap[S]? = some (.cells C 167 (0, 0))) := Lib.hid (HRA2.out.st.cells)
     have hoS : Hid (oa ≠ some ⟨S, 0, none⟩) := Lib.hid (fun e => by obtain ⟨C, hC⟩ := HSS.out; have := HRA2.out.own.out.own; rw [e] at this; exact own_ne this hC (by decide) rfl)
     have hhS : Hid (ha ≠ some ⟨S, 0, none⟩) := Lib.hid (fun e => by obtain ⟨C, hC⟩ := HSS.out; have := HRA2.out.own.has.own; rw [e] at this; exact own_ne this hC (by decide) rfl)
     clear hx hat hrx hok hst hrt ho hat2 hxe hoe
     unfold stA at HRS
     go_wp2_with fail
     refine wp_region_still_tail 9 (by kernel_rfl) (by kernel_rfl) ?_
     simp only [List.take_succ_cons, List.take_zero, List.drop_succ_cons, List.drop_zero]
     refine wpStill_step (fun K hK => ?_)
     rw [if_pos (by rfl)]
     refine still_mid 167 _ rfl S 0 rfl _ _ HRS.out Tryz.underlying167 rfl (by rw [info167]; rfl) ?_
     refine hK _ ?_
     clear hK K
     still_step
     still_step
     still_step
     still_step
     refine wpStill_step (fun K hK => ?_)
     rw [if_pos (by rfl)]
     refine still_mid 24 _ rfl b (off + k * 5) rfl _ _ HRI.out Tryz.underlying24 rfl (by kernel_rfl) ?_
     refine hK _ ?_
     clear hK K
     still_step
     still_step
     still_step
     refine wpStill_nil ?_
     change wpList _ _ _ _ _ wr.drew
     go_wp2_with fail
     refine HCALL.out.mono ?_
     rintro e w6 ⟨s', pa2, pc2, k', fl', sl', rfl, hown6, hb6, hkeep6, hg6⟩
     have hst6 := HRA2.out.st.of (hkeep6 S hws hoS.out hhS.out)
     obtain ⟨C6, hC6⟩ : ∃ C, w6.heap[S]? = some (.cells C 167 (0, 0)) := by
      obtain ⟨C, h⟩ := HSS.out
      exact ⟨C, (hkeep6 S hws hoS.out hhS.out).trans h⟩
     obtain ⟨kk, rfl, hlive⟩ : ∃ kk : Nat, k' = (kk : Int) ∧ ((fl' = false ∧ sl' = 0 ∧ kk ≤ ps.length ∧ n + 1 ≤ kk ∧ B.StOk pn i s' ∧ B.RunTo ps inp (B.start pay i) kk s' (n + 1)) ∨ (kk = ps.length ∧ n + 1 ≤ ps.length ∧ B.StOk pn i s' ∧ B.run ps inp 0 (B.start pay i) = ⟨if fl' then some sl' else none, s', n + 1⟩)) := by
      have hll := HLN.out
      unfold Goes at hg6
      cases hex : x.exec inp s with
      | halt =>
       rw [hex] at hg6
       obtain ⟨rfl, rfl, rfl, rfl⟩ := hg6
       exact ⟨len, rfl, .inr ⟨hll, by omega, HSTX.out, by rw [B.RunTo.halt HRT.out HXX.out hex]; rfl⟩⟩
      | fail j =>
       rw [hex] at hg6
       obtain ⟨rfl, rfl, rfl, rfl⟩ := hg6
       exact ⟨len, rfl, .inr ⟨hll, by omega, HSTX.out, by rw [B.RunTo.fail HRT.out HXX.out hex]; rfl⟩⟩
      | go d u =>
       rw [hex] at hg6
       obtain ⟨rfl, rfl, rfl, rfl⟩ := hg6
       have hd := exec_left HXE.out HOKX.out hex
       exact ⟨k + 1 + d, by push_cast; rfl, .inl ⟨rfl, rfl, by omega, by omega, exec_stok HRX.out HXE.out HOKX.out HSTX.out HWI.out hex, B.RunTo.step HRT.out HXX.out hex⟩⟩
     have HLIVE := Lib.hid hlive
     have HST7 := Lib.hid (StIn.store hst6 s' (.slice pa2 pn pc2) (.slice oa i oc) (.slice ha i hc) kk fl' sl')
     have HO7 := Lib.hid (hown6.grown (grownBy_setCells S (stA s' (.slice pa2 pn pc2) (.slice oa i oc) (.slice ha i hc) kk fl' sl').toList 0 w6) hC6)
     have HB7 : Hid (Below N w2 (w6.setCells S 0 (stA s' (.slice pa2 pn pc2) (.slice oa i oc) (.slice ha i hc) kk fl' sl').toList)) := Lib.hid (((HRA2.out.bel.trans (Below.refl N wr).drew).trans hb6).grown (grownBy_setCells _ _ _ _) (by have := hb6.size; have h3 : wr.drew.heap.size = wr.heap.size := rfl; omega) (fun q hq => by have := Option.some.inj hq; omega))
     have HTH7 : Hid (w6.there S 0 22) := Lib.hid (CellsAt.there hst6 (by omega))
     have HON : Hid ((stA s' (.slice pa2 pn pc2) (.slice oa i oc) (.slice ha i hc) kk fl' sl').all (·.oneCell') = true) := Lib.hid (stA_ones s' pa2 oa ha pn pc2 i oc i hc kk fl' sl')
     have HSZ : Hid ((stA s' (.slice pa2 pn pc2) (.slice oa i oc) (.slice ha i hc) kk fl' sl').size = 22) := Lib.hid rfl
     obtain ⟨A, hA⟩ : ∃ A, stA s' (.slice pa2 pn pc2) (.slice oa i oc) (.slice ha i hc) kk fl' sl' = A := ⟨_, rfl⟩
     rw [hA] at HST7 HO7 HB7 HON HSZ ⊢
     clear hst6 hC6 hlive hg6 hown6 hb6 hkeep6 HCALL hA
     go_wp2_with (refine wpList_store_mid (by rfl) 167 _ _ (by rfl) S 0 A (by rfl) (by rfl) (by rw [HSZ.out]; exact HTH7.out) (by rw [info167, HSZ.out]) HON.out ?_)
     go_roundw
     case rel => exact ⟨kk, n + 1, s', pa2, pc2, fl', sl', by go_num, ⟨HST7.out, HO7.out, HB7.out, HLIVE.out⟩⟩
     case measure => simp [intOf]; omega
    ·obtain ⟨hkl, hnl, hsk, hrun⟩ : k = ps.length ∧ n ≤ ps.length ∧ B.StOk pn i s ∧ B.run ps inp 0 (B.start pay i) = ⟨if fl then some sl else none, s, n⟩ := by
       have hll := HLN.out
       rcases HRA2.out.live with ⟨rfl, rfl, h1, h2, h3, h4⟩ | h
       ·exact ⟨by omega, by omega, h3, by rw [h4.done (by omega)]; rfl⟩
       ·exact h
     have HSK := Lib.hid hsk
     have c20 := HRA2.out.st.c20
     have c21 := HRA2.out.st.c21
     have c16 := HRA2.out.st.c16
     have c17 := HRA2.out.st.c17
     have c18 := HRA2.out.st.c18
     have k2 : decide (k < len) = false := by simpa using hlt
     have hG := (HRA2.out.bel.block w.heap.size (by have := HNE.out; omega)).trans HG2.out
     have HTH : Hid (wr.there w.heap.size 0 6) := Lib.hid (ran_there hG rfl)
     clear hsk hG hkl
     cases fl with
     | true =>
      simp only [if_true] at hrun
      have HRG : Hid ((wr.setCells w.heap.size 0 (#[.bool true, .int .i64 sl, .slice none 0 0, .slice none 0 0, .slice none 0 0, .int .i64 (n : Int)] : Array Value).toList).rangeAt w.heap.size 0 (#[.bool true, .int .i64 sl, .slice none 0 0, .slice none 0 0, .slice none 0 0, .int .i64 (n : Int)] : Array Value).toList) := Lib.hid (World.rangeAt_setCells_same _ _ _ _ HTH.out)
      have hgr : wr.grownBy (wr.setCells w.heap.size 0 (#[.bool true, .int .i64 sl, .slice none 0 0, .slice none 0 0, .slice none 0 0, .int .i64 (n : Int)] : Array Value).toList) (some w.heap.size) := grownBy_setCells _ _ _ _
      have HB7 : Hid (Below w.heap.size w (wr.setCells w.heap.size 0 (#[.bool true, .int .i64 sl, .slice none 0 0, .slice none 0 0, .slice none 0 0, .int .i64 (n : Int)] : Array Value).toList)) := Lib.hid ((HB2.out.trans (HRA2.out.bel.mono (by have := HNE.out; omega))).grown hgr (by have := HNE.out; omega) (fun q hq => by have := Option.some.inj hq; omega))
      obtain rfl : r = ⟨some sl, s, n⟩ := HRE.out.symm.trans hrun
      clear hgr
      go_wp2_with (refine wpList_store_mid (by rfl) 52 _ _ (by rfl) w.heap.size 0 #[.bool true, .int .i64 sl, .slice none 0 0, .slice none 0 0, .slice none 0 0, .int .i64 (n : Int)] (by rfl) (by rfl) HTH.out (by rw [info52]; rfl) (by simp [Value.oneCell']) ?_)
      refine bodyPost_ret (v := .tuple #[.agg #[.bool true, .int .i64 sl, .slice none 0 0, .slice none 0 0, .slice none 0 0, .int .i64 (n : Int)], .int .i64 0, .int .i64 (-1)]) ?_ rfl ?_
      ·exact ret_ran Tryz.results70 (by rfl) (by rfl) (by rfl) HRG.out rfl
      ·exact ⟨none, 0, none, 0, none, 0, rfl, ⟨rfl, fun j v hv => by cases hv⟩, ⟨rfl, fun j v hv => by cases hv⟩, ⟨rfl, fun j v hv => by cases hv⟩, HB7.out⟩
     | false =>
      simp only [Bool.false_eq_true, if_false] at hrun
      have HRG : Hid ((wr.setCells w.heap.size 0 (#[.bool false, .int .i64 0, .slice pa' pn pc', .slice oa i oc, .slice ha i hc, .int .i64 (n : Int)] : Array Value).toList).rangeAt w.heap.size 0 (#[.bool false, .int .i64 0, .slice pa' pn pc', .slice oa i oc, .slice ha i hc, .int .i64 (n : Int)] : Array Value).toList) := Lib.hid (World.rangeAt_setCells_same _ _ _ _ HTH.out)
      have hgr : wr.grownBy (wr.setCells w.heap.size 0 (#[.bool false, .int .i64 0, .slice pa' pn pc', .slice oa i oc, .slice ha i hc, .int .i64 (n : Int)] : Array Value).toList) (some w.heap.size) := grownBy_setCells _ _ _ _
      have HB7 : Hid (Below w.heap.size w (wr.setCells w.heap.size 0 (#[.bool false, .int .i64 0, .slice pa' pn pc', .slice oa i oc, .slice ha i hc, .int .i64 (n : Int)] : Array Value).toList)) := Lib.hid ((HB2.out.trans (HRA2.out.bel.mono (by have := HNE.out; omega))).grown hgr (by have := HNE.out; omega) (fun q hq => by have := Option.some.inj hq; omega))
      have HL1 := Lib.hid (ListAt.ofOwn (HRA2.out.own.pay.keep (fun q hq => hgr.block q (by have := HRA2.out.own.pay; rw [hq] at this; exact (this.own.lt q rfl).2) (by have := HRA2.out.own.pay; rw [hq] at this; have h2 := (this.own.lt q rfl).1; have := HNE.out; intro e; have := Option.some.inj e; omega))).own)
      have HL2 := Lib.hid (ListAt.ofOwn (HRA2.out.own.out.keep (fun q hq => hgr.block q (by have := HRA2.out.own.out; rw [hq] at this; exact (this.own.lt q rfl).2) (by have := HRA2.out.own.out; rw [hq] at this; have h2 := (this.own.lt q rfl).1; have := HNE.out; intro e; have := Option.some.inj e; omega))).own)
      have HL3 := Lib.hid (ListAt.ofOwn (HRA2.out.own.has.keep (fun q hq => hgr.block q (by have := HRA2.out.own.has; rw [hq] at this; exact (this.own.lt q rfl).2) (by have := HRA2.out.own.has; rw [hq] at this; have h2 := (this.own.lt q rfl).1; have := HNE.out; intro e; have := Option.some.inj e; omega))).own)
      obtain rfl : r = ⟨none, s, n⟩ := HRE.out.symm.trans hrun
      clear hgr
      go_wp2_with (refine wpList_store_mid (by rfl) 52 _ _ (by rfl) w.heap.size 0 #[.bool false, .int .i64 0, .slice pa' pn pc', .slice oa i oc, .slice ha i hc, .int .i64 (n : Int)] (by rfl) (by rfl) HTH.out (by rw [info52]; rfl) (by simp [Value.oneCell']) ?_)
      refine bodyPost_ret (v := .tuple #[.agg #[.bool false, .int .i64 0, .slice pa' pn pc', .slice oa i oc, .slice ha i hc, .int .i64 (n : Int)], .int .i64 0, .int .i64 (-1)]) ?_ rfl ?_
      ·exact ret_ran Tryz.results70 (by rfl) (by rfl) (by rfl) HRG.out rfl
      ·refine ⟨pa', pc', oa, oc, ha, hc, ?_, ?_, ?_, ?_, HB7.out⟩
       ·show _ = Ending.returned (.tuple #[.agg #[.bool false, .int .i64 0, .slice pa' s.pay.length pc', .slice oa s.out.length oc, .slice ha s.has.length hc, .int .i64 (n : Int)], .int .i64 0, .int .i64 (-1)])
        rw [HSK.out.payl, HSK.out.outl, HSK.out.hasl]
       ·show ListAt _ pa' s.pay.length _
        rw [HSK.out.payl]; exact HL1.out
       ·show ListAt _ oa s.out.length _
        rw [HSK.out.outl]; exact HL2.out
       ·show ListAt _ ha s.has.length _
        rw [HSK.out.hasl]; exact HL3.out

end Code
end Go.Proofs.YtmpeipdeablkdaaGreatDoor

namespace Go.Proofs.YtmpeipdeablkdaaGreatDoor
open Go.RowKit Go.Proofs.YtmpeipdeablkdaaGreatDoor.Code

namespace LawVmRuns

attribute [local go_sem ↓] Go.wp_at_zero Go.wp_at_succ

theorem er_plain {n : Int} (h : 0 ≤ n ∧ n ≤ 26) : plainB (erOf (n, none)) n = true := by
 unfold plainB erOf
 by_cases h0 : n = 0
 ·subst h0; rfl
 ·simp only [if_neg h0, Er.num, Er.place]
  have : ((n.toNat : Nat) : Int) = n := by omega
  simp [this]

theorem er_at {n : Int} (h : 0 ≤ n ∧ n ≤ 26) (i : Nat) : atB (erOf (n, some i)) n 0 i = true := by
 unfold atB erOf
 by_cases h0 : n = 0
 ·subst h0; rfl
 ·simp only [if_neg h0, Er.num, Er.place]
  have : ((n.toNat : Nat) : Int) = n := by omega
  simp [this]

set_option maxRecDepth 100000 in
set_option maxHeartbeats 1600000 in
theorem told_plain (e : Er) (h : e.ok) (n : Int) (w : World) (hg : ErrVar w) : Calls Tryz.prog 72 #[e.val, .int .i64 n, .int .i64 (-1)] w (BoolOut (plainB e n) w) := by
 have HC := Lib.hid (plain_any e h n w hg)
 generalize e.val = v at *
 clear hg
 go_enter Tryz.func72, Tryz.ntmps72
 go_wp2_with fail
 refine HC.out.mono ?_
 rintro e w1 ⟨rfl, hb1⟩
 have HB := Lib.hid hb1
 clear hb1 HC
 go_wp2_with fail
 go_ret
 exact ⟨rfl, HB.out⟩

set_option maxRecDepth 100000 in
set_option maxHeartbeats 1600000 in
theorem told_at (e : Er) (h : e.ok) (n : Int) (i : Nat) (w : World) (hg : ErrVar w) : Calls Tryz.prog 72 #[e.val, .int .i64 n, .int .i64 (i : Int)] w (BoolOut (atB e n 0 i) w) := by
 have HC := Lib.hid (at_any e h n 0 i w hg)
 generalize e.val = v at *
 clear hg
 have i0 : ¬ ((i : Int) < 0) := by omega
 go_enter Tryz.func72, Tryz.ntmps72
 go_wp2_with fail
 refine HC.out.mono ?_
 rintro e w1 ⟨rfl, hb1⟩
 have HB := Lib.hid hb1
 clear hb1 HC
 go_wp2_with fail
 go_ret
 exact ⟨rfl, HB.out⟩

theorem bytesU8 : Tryz.prog.bytesOf 5 = 1 := by kernel_rfl
theorem bytesU64 : Tryz.prog.bytesOf 22 = 8 := by kernel_rfl

open Go.Proofs.YtmpeipdeablkdaaGreatDoor.Code.One

theorem lists_of {E T : TypeId} {w : World} {B N g cc : Nat} {p1 p2 : Option Addr} {n1 c1 n2 c2 : Nat} {v1 v2 : List Value} (ht : OwnV T w B (some ⟨g, 0, none⟩) 2 cc [.slice p1 n1 c1, .slice p2 n2 c2])
    (h1 : OwnV E w N p1 n1 c1 v1) (h2 : OwnV E w N p2 n2 c2 v2) (hne : ∀ q, p1 = some ⟨q, 0, none⟩ → p2 ≠ some ⟨q, 0, none⟩) (hE : E ≠ T) :
    Lists E T N g (fun k => if k = 0 then p1 else p2) (fun k => if k = 0 then n1 else n2) (fun k => if k = 0 then c1 else c2) (fun k => if k = 0 then v1 else v2) w := by
 refine ⟨?_, fun k hk => ?_, fun j k q hj hk hjk he => ?_, hE⟩
 ·rcases ht.own.2 with ⟨e, _⟩ | ⟨g', c, cur, e, _, hh, _, _, hsz, htk⟩
  ·cases e
  ·have e2 : g = g' := by injection e with e; injection e with e; injection e
   subst e2
   have h0 : (cur.toList.take (2 * 1))[0]? = some (.slice p1 n1 c1) := by rw [htk]; rfl
   have h1 : (cur.toList.take (2 * 1))[1]? = some (.slice p2 n2 c2) := by rw [htk]; rfl
   rw [List.getElem?_take, if_pos (by omega), Array.getElem?_toList] at h0 h1
   exact ⟨cur, hh, h0, h1⟩
 ·have : k = 0 ∨ k = 1 := by omega
  rcases this with rfl | rfl
  ·exact h1
  ·exact h2
 ·have : (j = 0 ∧ k = 1) ∨ (j = 1 ∧ k = 0) := by omega
  rcases this with ⟨rfl, rfl⟩ | ⟨rfl, rfl⟩
  ·exact hne q he
  ·intro e; exact hne q e he

/-- lists that lie below stay -/
theorem ownV_low {E : TypeId} {w w' : World} {N base n c : Nat} {a : Option Addr} {vs : List Value} (h : OwnV E w base a n c vs) (hb : Below N w w') (hl : ∀ q, a = some ⟨q, 0, none⟩ → q < N) : OwnV E w' base a n c vs :=
 h.keep (fun q hq => hb.block q (hl q hq))
theorem ownP_low {w w' : World} {N base n c : Nat} {a : Option Addr} {qs : List B.Ins} (h : OwnP w base a n c qs) (hb : Below N w w') (hl : ∀ q, a = some ⟨q, 0, none⟩ → q < N) : OwnP w' base a n c qs := by
 refine ⟨h.len, h.own.1, ?_⟩
 rcases h.own.2 with h2 | ⟨g', c, cur, e, hb', hh, h3⟩
 ·exact .inl h2
 ·refine .inr ⟨g', c, cur, e, hb', ?_, h3⟩
  injection e with e _ _
  exact (hb.block g' (hl g' e)).trans hh

/-- a result, and what it holds -/
def ranA (r : B.Out) (p1 : Option Addr) (c1 : Nat) (p2 : Option Addr) (c2 : Nat) (p3 : Option Addr) (c3 : Nat) : Array Value :=
 #[.bool (fl r), .int .i64 (slotOf r), .slice p1 (payL r).length c1, .slice p2 (outL r).length c2, .slice p3 (hasL r).length c3, .int .i64 (r.steps : Int)]

structure RanOwn (N : Nat) (r : B.Out) (p1 : Option Addr) (c1 : Nat) (p2 : Option Addr) (c2 : Nat) (p3 : Option Addr) (c3 : Nat) (w : World) : Prop where
 pay : OwnV 5 w N p1 (payL r).length c1 ((payL r).map u8V)
 out : OwnV 22 w N p2 (outL r).length c2 ((outL r).map u64V)
 has : OwnV 4 w N p3 (hasL r).length c3 ((hasL r).map Value.bool)

theorem RanOwn.kept {N : Nat} {r : B.Out} {p1 : Option Addr} {c1 : Nat} {p2 : Option Addr} {c2 : Nat} {p3 : Option Addr} {c3 : Nat} {w w' : World} (h : RanOwn N r p1 c1 p2 c2 p3 c3 w) (hb : Below w.heap.size w w') : RanOwn N r p1 c1 p2 c2 p3 c3 w' :=
 ⟨h.pay.kept hb, h.out.kept hb, h.has.kept hb⟩
theorem RanOwn.weaken {N N' : Nat} {r : B.Out} {p1 : Option Addr} {c1 : Nat} {p2 : Option Addr} {c2 : Nat} {p3 : Option Addr} {c3 : Nat} {w : World} (h : RanOwn N r p1 c1 p2 c2 p3 c3 w) (hN : N' ≤ N) : RanOwn N' r p1 c1 p2 c2 p3 c3 w :=
 ⟨h.pay.weaken hN, h.out.weaken hN, h.has.weaken hN⟩

def VOut (r : B.Out) (ev : Value) (w : World) (e : Ending) (w' : World) : Prop :=
 ∃ p1 c1 p2 c2 p3 c3, e = .returned (.tuple #[.agg (ranA r p1 c1 p2 c2 p3 c3), ev]) ∧ RanOwn w.heap.size r p1 c1 p2 c2 p3 c3 w' ∧ ((payL r).length ≤ 8 ∧ (outL r).length ≤ 64 ∧ (hasL r).length ≤ 64) ∧ Below w.heap.size w w'
def WOut (r : B.Out) (no at_ : Int) (w : World) (e : Ending) (w' : World) : Prop :=
 ∃ p1 c1 p2 c2 p3 c3, e = .returned (.tuple #[.agg (ranA r p1 c1 p2 c2 p3 c3), .int .i64 no, .int .i64 at_]) ∧ ListAt w' p1 (payL r).length ((payL r).map u8V) ∧ ListAt w' p2 (outL r).length ((outL r).map u64V) ∧ ListAt w' p3 (hasL r).length ((hasL r).map Value.bool) ∧ Below w.heap.size w w'

/-- nothing was run -/
def noRun : B.Out := ⟨none, ⟨fun _ => 0, [], [], []⟩, 0⟩

theorem listAt_nil (w : World) : ListAt w none 0 [] := ⟨rfl, fun i v hv => by simp at hv⟩

theorem both (len pn im : Nat) (ps : List B.Ins) (pay inp : List Nat) (hwf : ∀ y ∈ ps, y.Wf) (hl : len ≤ 9223372036854775807) (hby : B.Bytes pay) (hwi : B.Words inp) : ∃ (r : B.Out) (ev : Value) (no at_ : Int),
    (∀ (w : World) (xo yo zo : Option Addr) (xc yc zc : Nat), ProgAt w xo len ps → ListAt w yo pn (pay.map u8V) → ListAt w zo im (inp.map u64V) → Tabs w → Calls Tryz.prog 29 #[.slice xo len xc, .slice yo pn yc, .slice zo im zc] w (VOut r ev w)) ∧
    (∀ (w : World) (xo yo zo : Option Addr) (xc yc zc : Nat), ProgAt w xo len ps → ListAt w yo pn (pay.map u8V) → ListAt w zo im (inp.map u64V) → Calls Tryz.prog 70 #[.slice xo len xc, .slice yo pn yc, .slice zo im zc] w (WOut r no at_ w)) ∧
    (∀ w : World, ErrVar w → Calls Tryz.prog 72 #[ev, .int .i64 no, .int .i64 at_] w (BoolOut true w)) := by
 by_cases hm : B.MayRun ps pn im
 ·obtain ⟨r, hr⟩ : ∃ r, B.run ps inp 0 (B.start pay im) = r := ⟨_, rfl⟩
  refine ⟨r, .nilIface, 0, -1, fun w xo yo zo xc yc zc h1 h2 h3 ht => ?_, fun w xo yo zo xc yc zc h1 h2 h3 => ?_, fun w hw => ?_⟩
  ·refine (run_same (r := r) (Same.refl r) rfl xo yo zo len xc pn yc im zc ps pay inp w h1 hwf ht hl hm h2 h3 hby hwi hr).mono ?_
   rintro e w' ⟨p1, c1, p2, c2, p3, c3, rfl, o1, o2, o3, hs, hb⟩
   exact ⟨p1, c1, p2, c2, p3, c3, rfl, ⟨⟨by simp, o1⟩, ⟨by simp, o2⟩, ⟨by simp, o3⟩⟩, hs, hb⟩
  ·have h := rrun_yes xo yo zo len xc pn yc im zc ps pay inp w h1 hwf hl hm h2 h3 hby hwi
   rw [hr] at h
   refine h.mono ?_
   rintro e w' ⟨p1, c1, p2, c2, p3, c3, rfl, o1, o2, o3, hb⟩
   exact ⟨p1, c1, p2, c2, p3, c3, rfl, o1, o2, o3, hb⟩
  ·exact told_plain (progEr [] 0 0) (progEr_ok [] 0 0) 0 w hw
 ·have hrg := program_range ps pn im
  have hok := progEr_ok ps pn im
  have her : progEr ps pn im = erOf (B.program ps pn im) := rfl
  obtain ⟨p, hp⟩ : ∃ p, B.program ps pn im = p := ⟨_, rfl⟩
  have hrr := fun xo yo zo xc yc zc w h1 => rrun_no xo yo zo len xc pn yc im zc ps w h1 hwf hl hm
  rw [hp] at hrg her
  simp only [hp] at hrr
  obtain ⟨no, o⟩ := p
  cases o with
  | none =>
   refine ⟨noRun, (progEr ps pn im).val, no, -1, fun w xo yo zo xc yc zc h1 h2 h3 ht => ?_, fun w xo yo zo xc yc zc h1 h2 h3 => ?_, fun w hw => ?_⟩
   ·refine (run_no xo yo zo len xc pn yc im zc ps w h1 hwf ht hl hm).mono ?_
    rintro e w' ⟨rfl, hb⟩
    exact ⟨none, 0, none, 0, none, 0, rfl, ⟨OwnV.nil _ _ _, OwnV.nil _ _ _, OwnV.nil _ _ _⟩, by decide, hb⟩
   ·refine (hrr xo yo zo xc yc zc w h1).mono ?_
    rintro e w' ⟨rfl, hb⟩
    exact ⟨none, 0, none, 0, none, 0, rfl, listAt_nil _, listAt_nil _, listAt_nil _, hb⟩
   ·have h := told_plain (progEr ps pn im) hok no w hw
    rw [show plainB (progEr ps pn im) no = true by rw [her]; exact er_plain hrg] at h
    exact h
  | some i =>
   refine ⟨noRun, (progEr ps pn im).val, no, (i : Int), fun w xo yo zo xc yc zc h1 h2 h3 ht => ?_, fun w xo yo zo xc yc zc h1 h2 h3 => ?_, fun w hw => ?_⟩
   ·refine (run_no xo yo zo len xc pn yc im zc ps w h1 hwf ht hl hm).mono ?_
    rintro e w' ⟨rfl, hb⟩
    exact ⟨none, 0, none, 0, none, 0, rfl, ⟨OwnV.nil _ _ _, OwnV.nil _ _ _, OwnV.nil _ _ _⟩, by decide, hb⟩
   ·refine (hrr xo yo zo xc yc zc w h1).mono ?_
    rintro e w' ⟨rfl, hb⟩
    exact ⟨none, 0, none, 0, none, 0, rfl, listAt_nil _, listAt_nil _, listAt_nil _, hb⟩
   ·have h := told_at (progEr ps pn im) hok no i w hw
    rw [show atB (progEr ps pn im) no 0 i = true by rw [her]; exact er_at hrg i] at h
    exact h

/-- what lies in memory behind the runs -/
structure Bun (N M : Nat) (r : B.Out) (p1 : Option Addr) (c1 : Nat) (p2 : Option Addr) (c2 : Nat) (p3 : Option Addr) (c3 : Nat) (q1 : Option Addr) (d1 : Nat) (q2 : Option Addr) (d2 : Nat) (q3 : Option Addr) (d3 : Nat) (m1 : Option Addr) (n1 : Nat) (m2 : Option Addr) (n2 : Nat) (m3 : Option Addr) (n3 : Nat) (R1 R2 R3 : Nat) (w3 w : World) : Prop where
 oa : RanOwn N r p1 c1 p2 c2 p3 c3 w
 ob : RanOwn M r q1 d1 q2 d2 q3 d3 w
 ga : w.heap[R1]? = some (.cells (ranA r p1 c1 p2 c2 p3 c3) 52 (0, 0))
 gb : w.heap[R2]? = some (.cells (ranA r q1 d1 q2 d2 q3 d3) 52 (0, 0))
 gc : w.heap[R3]? = some (.cells (ranA r m1 n1 m2 n2 m3 n3) 52 (0, 0))
 l1 : ListAt w m1 (payL r).length ((payL r).map u8V)
 l2 : ListAt w m2 (outL r).length ((outL r).map u64V)
 l3 : ListAt w m3 (hasL r).length ((hasL r).map Value.bool)
 bel : Below N w3 w

theorem Bun.kept {N M : Nat} {r : B.Out} {p1 : Option Addr} {c1 : Nat} {p2 : Option Addr} {c2 : Nat} {p3 : Option Addr} {c3 : Nat} {q1 : Option Addr} {d1 : Nat} {q2 : Option Addr} {d2 : Nat} {q3 : Option Addr} {d3 : Nat} {m1 : Option Addr} {n1 : Nat} {m2 : Option Addr} {n2 : Nat} {m3 : Option Addr} {n3 : Nat} {R1 R2 R3 : Nat} {w3 w w' : World} (h : Bun N M r p1 c1 p2 c2 p3 c3 q1 d1 q2 d2 q3 d3 m1 n1 m2 n2 m3 n3 R1 R2 R3 w3 w) (hb : Below w.heap.size w w') (hN : N ≤ w.heap.size) : Bun N M r p1 c1 p2 c2 p3 c3 q1 d1 q2 d2 q3 d3 m1 n1 m2 n2 m3 n3 R1 R2 R3 w3 w' :=
 ⟨h.oa.kept hb, h.ob.kept hb, (hb.block R1 (lt_of_block h.ga)).trans h.ga, (hb.block R2 (lt_of_block h.gb)).trans h.gb, (hb.block R3 (lt_of_block h.gc)).trans h.gc, h.l1.below hb (Nat.le_refl _), h.l2.below hb (Nat.le_refl _), h.l3.below hb (Nat.le_refl _), h.bel.trans (hb.mono hN)⟩

theorem rcell {w : World} {b : Nat} {C : Array Value} {t : TypeId} (h : w.heap[b]? = some (.cells C t (0, 0))) (j : Nat) {v : Value} (hv : C[j]? = some v) : w.cell? ⟨b, j, none⟩ = some v := by rw [cell_of_row _ _ _ _ _ _ h, hv]
set_option maxRecDepth 100000 in
set_option maxHeartbeats 25600000 in
theorem law (a0 : Option Addr) (len0 cap0 : Nat) (ps0 : List B.Ins) (pa1 : Option Addr) (pn1 pc1 : Nat) (pay1 : List Nat) (ia2 : Option Addr) (im2 ic2 : Nat) (inp2 : List Nat) (w : World) (hp0 : ProgAt w a0 len0 ps0) (hwf0 : ∀ y ∈ ps0, y.Wf) (hl0 : len0 * 40 ≤ 140737488351232) (hn0 : a0 = none → cap0 = 0) (hy1 : ListAt w pa1 pn1 (pay1.map u8V)) (hb1 : B.Bytes pay1) (hyn1 : pa1 = none → pc1 = 0) (hyl1 : pn1 ≤ 9223372036854775807) (hyr1 : pn1 * 1 ≤ 140737488351232) (hu2 : ListAt w ia2 im2 (inp2.map u64V)) (hw2 : B.Words inp2) (hun2 : ia2 = none → ic2 = 0) (hul2 : im2 ≤ 9223372036854775807) (hur2 : im2 * 8 ≤ 140737488351232) (hR : Ready w) :
    Calls Tryz.prog 33 #[.slice a0 len0 cap0, .slice pa1 pn1 pc1, .slice ia2 im2 ic2] w (BoolOut true w) := by
 have HP := Lib.hid hp0
 have HWF := Lib.hid hwf0
 have HR := Lib.hid hR
 have HL0 := Lib.hid hl0
 have HY := Lib.hid hy1
 have HBY := Lib.hid hb1
 have HU := Lib.hid hu2
 have HW := Lib.hid hw2
 have HYR := Lib.hid hyr1
 have HUR := Lib.hid hur2
 have HYLN : Hid (pn1 = pay1.length) := Lib.hid (by simpa using hy1.len)
 have HULN : Hid (im2 = inp2.length) := Lib.hid (by simpa using hu2.len)
 have hlw : len0 ≤ 9223372036854775807 := by omega
 have _U0 := Lib.hid hn0
 have _U1 := Lib.hid hyn1
 have _U2 := Lib.hid hyl1
 have _U3 := Lib.hid hun2
 have _U4 := Lib.hid hul2
 clear hp0 hwf0 hR hl0 hy1 hb1 hu2 hw2 hyr1 hur2 hn0 hyn1 hyl1 hun2 hul2
 go_enter Tryz.func33, Tryz.ntmps33
 go_wp2_with fail
 refine (lent_any a0 len0 cap0 ps0 _ HP.out HL0.out).mono ?_
 rintro e w1 ⟨xo, xc, rfl, hown1, hb1⟩
 have HX := Lib.hid hown1
 have HB1 := Lib.hid hb1
 have hs1 := hb1.size
 clear hown1 hb1
 go_wp2_with fail
 refine (lentB_any pa1 pn1 pc1 pay1 _ (HY.out.below HB1.out (Nat.le_refl _)) HYR.out).mono ?_
 rintro e w2 ⟨yo, yc, rfl, hown2, hb2⟩
 have HYO := Lib.hid hown2
 have HX2 := Lib.hid (HX.out.kept hb2)
 have HB2 := Lib.hid (HB1.out.trans (hb2.mono hs1))
 have hs2 := HB2.out.size
 clear hown2 hb2 HX
 go_wp2_with fail
 refine (lentN_any ia2 im2 ic2 inp2 _ (HU.out.below HB2.out (Nat.le_refl _)) HUR.out).mono ?_
 rintro e w3 ⟨zo, zc, rfl, hown3, hb3⟩
 have HZO := Lib.hid hown3
 have HY3 := Lib.hid (HYO.out.kept hb3)
 have HX3 := Lib.hid (HX2.out.kept hb3)
 have HB3 := Lib.hid (HB2.out.trans (hb3.mono hs2))
 have hs3 := HB3.out.size
 have HXL : Hid (∀ q, xo = some ⟨q, 0, none⟩ → q < w3.heap.size) := Lib.hid (fun q e => by have := HX3.out.own; rw [e] at this; exact (this.lt q rfl).2)
 have HYL : Hid (∀ q, yo = some ⟨q, 0, none⟩ → q < w3.heap.size) := Lib.hid (fun q e => by have := HY3.out.own; rw [e] at this; exact (this.lt q rfl).2)
 have HZL : Hid (∀ q, zo = some ⟨q, 0, none⟩ → q < w3.heap.size) := Lib.hid (fun q e => by have := HZO.out.own; rw [e] at this; exact (this.lt q rfl).2)
 have HXA := Lib.hid (HX3.out.ahead HP.out.len)
 have HYA := Lib.hid (HY3.out.aheadB HYLN.out)
 have HZA := Lib.hid (HZO.out.aheadN HULN.out)
 clear hown3 hb3 HX2 HYO
 obtain ⟨r, ev, no, at_, hv, hw, ht⟩ := both len0 pn1 im2 ps0 pay1 inp2 HWF.out hlw HBY.out HW.out
 have HV := Lib.hid hv
 have HWW := Lib.hid hw
 have HT := Lib.hid ht
 clear hv hw ht
 go_wp2_with fail
 refine (HV.out w3 xo yo zo xc yc zc HXA.out HYA.out HZA.out (HR.out.tabs.below HB3.out (Nat.le_refl _))).mono ?_
 rintro e w4 ⟨p1, c1, p2, c2, p3, c3, rfl, ho4, hsz, hb4⟩
 have HS := Lib.hid hsz
 have hs4 := hb4.size
 obtain ⟨w5, hw5⟩ : ∃ w5, w4.alloc (.cells (ranA r p1 c1 p2 c2 p3 c3) 52) = w5 := ⟨_, rfl⟩
 have hba : Below w4.heap.size w4 w5 := by rw [← hw5]; exact (Below.refl _ _).alloc (Nat.le_refl _) _
 have HG5 : Hid (w5.heap[w4.heap.size]? = some (.cells (ranA r p1 c1 p2 c2 p3 c3) 52 (0, 0))) := by rw [← hw5]; exact Lib.hid (heap_alloc_new w4 _)
 have HN5 : Hid (Below w3.heap.size w3 w5) := Lib.hid (hb4.trans (hba.mono hs4))
 have HO5 := Lib.hid (ho4.kept hba)
 have HL5 : Hid (∀ q, p1 = some ⟨q, 0, none⟩ ∨ p2 = some ⟨q, 0, none⟩ ∨ p3 = some ⟨q, 0, none⟩ → q < w5.heap.size) := Lib.hid (fun q e => by
  rcases e with e | e | e
  ·have := HO5.out.pay.own; rw [e] at this; exact (this.lt q rfl).2
  ·have := HO5.out.out.own; rw [e] at this; exact (this.lt q rfl).2
  ·have := HO5.out.has.own; rw [e] at this; exact (this.lt q rfl).2)
 have hs5 := HN5.out.size
 have HX5 := Lib.hid (HXA.out.below HN5.out (Nat.le_refl _))
 have HY5 := Lib.hid (HYA.out.below HN5.out (Nat.le_refl _))
 have HZ5 := Lib.hid (HZA.out.below HN5.out (Nat.le_refl _))
 unfold ranA at hw5
 clear ho4 hsz hb4 hba
 unfold ranA
 go_wp2_with fail
 try rw [hw5]
 clear hw5
 refine (HV.out w5 xo yo zo xc yc zc HX5.out HY5.out HZ5.out (HR.out.tabs.below (HB3.out.trans (HN5.out.mono hs3)) (Nat.le_refl _))).mono ?_
 rintro e w6 ⟨q1, d1, q2, d2, q3, d3, rfl, ho6, _, hb6⟩
 have hs6 := hb6.size
 obtain ⟨w7, hw7⟩ : ∃ w7, w6.alloc (.cells (ranA r q1 d1 q2 d2 q3 d3) 52) = w7 := ⟨_, rfl⟩
 have hba : Below w6.heap.size w6 w7 := by rw [← hw7]; exact (Below.refl _ _).alloc (Nat.le_refl _) _
 have hb57 : Below w5.heap.size w5 w7 := hb6.trans (hba.mono hs6)
 have HG7 : Hid (w7.heap[w6.heap.size]? = some (.cells (ranA r q1 d1 q2 d2 q3 d3) 52 (0, 0))) := by rw [← hw7]; exact Lib.hid (heap_alloc_new w6 _)
 have HG57 := Lib.hid ((hb57.block _ (lt_of_block HG5.out)).trans HG5.out)
 have HO57 := Lib.hid (HO5.out.kept hb57)
 have HO7 := Lib.hid (ho6.kept hba)
 have HN7 : Hid (Below w3.heap.size w3 w7) := Lib.hid (HN5.out.trans (hb57.mono hs5))
 have hs7 := HN7.out.size
 have HB7 := Lib.hid (HB3.out.trans (HN7.out.mono hs3))
 unfold ranA at hw7
 clear ho6 hb6 hba hb57 HX5 HY5 HZ5 HG5 HO5 HN5
 unfold ranA
 go_wp2_with fail
 try rw [hw7]
 clear hw7
 refine (HWW.out w7 a0 pa1 ia2 cap0 pc1 ic2 (HP.out.below HB7.out (Nat.le_refl _)) (HY.out.below HB7.out (Nat.le_refl _)) (HU.out.below HB7.out (Nat.le_refl _))).mono ?_
 rintro e w8 ⟨m1, n1, m2, n2, m3, n3, rfl, l1, l2, l3, hb8⟩
 have hs8 := hb8.size
 obtain ⟨w9, hw9⟩ : ∃ w9, w8.alloc (.cells (ranA r m1 n1 m2 n2 m3 n3) 52) = w9 := ⟨_, rfl⟩
 have hba : Below w8.heap.size w8 w9 := by rw [← hw9]; exact (Below.refl _ _).alloc (Nat.le_refl _) _
 have hb79 : Below w7.heap.size w7 w9 := hb8.trans (hba.mono hs8)
 have HBN : Hid (Bun w3.heap.size w5.heap.size r p1 c1 p2 c2 p3 c3 q1 d1 q2 d2 q3 d3 m1 n1 m2 n2 m3 n3 w4.heap.size w6.heap.size w8.heap.size w3 w9) := Lib.hid ⟨HO57.out.kept hb79, HO7.out.kept hb79, (hb79.block _ (lt_of_block HG57.out)).trans HG57.out, (hb79.block _ (lt_of_block HG7.out)).trans HG7.out, by rw [← hw9]; exact heap_alloc_new w8 _, l1.below hba (Nat.le_refl _), l2.below hba (Nat.le_refl _), l3.below hba (Nat.le_refl _), HN7.out.trans (hb79.mono hs7)⟩
 have hs9 := HBN.out.bel.size
 unfold ranA at hw9
 clear hba hb8 hb79 l1 l2 l3 HO57 HO7 HG57 HG7 HN7 HB7
 have x0 := rcell HBN.out.ga 0 (v := .bool (fl r)) rfl
 have x1 := rcell HBN.out.ga 1 (v := .int .i64 (slotOf r)) rfl
 have x2 := rcell HBN.out.ga 2 (v := .slice p1 (payL r).length c1) rfl
 have x3 := rcell HBN.out.ga 3 (v := .slice p2 (outL r).length c2) rfl
 have x4 := rcell HBN.out.ga 4 (v := .slice p3 (hasL r).length c3) rfl
 have x5 := rcell HBN.out.ga 5 (v := .int .i64 (r.steps : Int)) rfl
 have z0 := rcell HBN.out.gc 0 (v := .bool (fl r)) rfl
 have z1 := rcell HBN.out.gc 1 (v := .int .i64 (slotOf r)) rfl
 have z2 := rcell HBN.out.gc 2 (v := .slice m1 (payL r).length n1) rfl
 have z3 := rcell HBN.out.gc 3 (v := .slice m2 (outL r).length n2) rfl
 have z4 := rcell HBN.out.gc 4 (v := .slice m3 (hasL r).length n3) rfl
 have z5 := rcell HBN.out.gc 5 (v := .int .i64 (r.steps : Int)) rfl
 unfold ranA
 have HBw9 := HBN
 have hsw9 : w3.heap.size ≤ w9.heap.size := hs9
 clear HBN hs9
 go_wp2_with fail
 try rw [hw9]
 clear hw9
 refine (sameRan_any (fl r) (slotOf r) (r.steps : Int) p1 m1 p2 m2 p3 m3 (payL r).length c1 n1 (outL r).length c2 n2 (hasL r).length c3 n3 (payL r) (outL r) (hasL r) w9 (ListAt.ofOwn HBw9.out.oa.pay.own) HBw9.out.l1 (ListAt.ofOwn HBw9.out.oa.out.own) HBw9.out.l2 (ListAt.ofOwn HBw9.out.oa.has.own) HBw9.out.l3 (by have := HS.out; omega)).mono ?_
 rintro e w10 ⟨rfl, hb⟩
 have HBw10 := Lib.hid (HBw9.out.kept hb hsw9)
 have hsw10 := HBw10.out.bel.size
 clear x0 x1 x2 x3 x4 x5
 clear z0 z1 z2 z3 z4 z5
 clear hb
 have x0 := rcell HBw10.out.gb 0 (v := .bool (fl r)) rfl
 have x1 := rcell HBw10.out.gb 1 (v := .int .i64 (slotOf r)) rfl
 have x2 := rcell HBw10.out.gb 2 (v := .slice q1 (payL r).length d1) rfl
 have x3 := rcell HBw10.out.gb 3 (v := .slice q2 (outL r).length d2) rfl
 have x4 := rcell HBw10.out.gb 4 (v := .slice q3 (hasL r).length d3) rfl
 have x5 := rcell HBw10.out.gb 5 (v := .int .i64 (r.steps : Int)) rfl
 have z0 := rcell HBw10.out.gc 0 (v := .bool (fl r)) rfl
 have z1 := rcell HBw10.out.gc 1 (v := .int .i64 (slotOf r)) rfl
 have z2 := rcell HBw10.out.gc 2 (v := .slice m1 (payL r).length n1) rfl
 have z3 := rcell HBw10.out.gc 3 (v := .slice m2 (outL r).length n2) rfl
 have z4 := rcell HBw10.out.gc 4 (v := .slice m3 (hasL r).length n3) rfl
 have z5 := rcell HBw10.out.gc 5 (v := .int .i64 (r.steps : Int)) rfl
 go_wp2_with fail
 refine (sameRan_any (fl r) (slotOf r) (r.steps : Int) q1 m1 q2 m2 q3 m3 (payL r).length d1 n1 (outL r).length d2 n2 (hasL r).length d3 n3 (payL r) (outL r) (hasL r) w10 (ListAt.ofOwn HBw10.out.ob.pay.own) HBw10.out.l1 (ListAt.ofOwn HBw10.out.ob.out.own) HBw10.out.l2 (ListAt.ofOwn HBw10.out.ob.has.own) HBw10.out.l3 (by have := HS.out; omega)).mono ?_
 rintro e w11 ⟨rfl, hb⟩
 have HBw11 := Lib.hid (HBw10.out.kept hb hsw10)
 have hsw11 := HBw11.out.bel.size
 clear x0 x1 x2 x3 x4 x5
 clear z0 z1 z2 z3 z4 z5
 clear hb
 have HE := fun w' (h : Below w3.heap.size w3 w') => HT.out w' (HR.out.err.below (HB3.out.trans (h.mono hs3)) (Nat.le_refl _))
 have HEH := Lib.hid HE
 clear HE
 go_wp2_with fail
 refine (HEH.out w11 HBw11.out.bel).mono ?_
 rintro e w12 ⟨rfl, hb⟩
 have HBw12 := Lib.hid (HBw11.out.kept hb hsw11)
 have hsw12 := HBw12.out.bel.size
 clear hb
 go_wp2_with fail
 refine (HEH.out w12 HBw12.out.bel).mono ?_
 rintro e w13 ⟨rfl, hb⟩
 have HBw13 := Lib.hid (HBw12.out.kept hb hsw12)
 have hsw13 := HBw13.out.bel.size
 clear hb
 obtain ⟨w14, hw14⟩ : ∃ w14, w13.alloc (.cells #[.slice none 0 0, .slice none 0 0, .slice none 0 0, .slice none 0 0, .slice none 0 0, .slice none 0 0, .slice none 0 0, .slice none 0 0, .slice none 0 0, .slice none 0 0, .slice none 0 0, .slice none 0 0, .slice none 0 0, .slice none 0 0, .slice none 0 0] 118) = w14 := ⟨_, rfl⟩
 have hb : Below w13.heap.size w13 w14 := by rw [← hw14]; exact (Below.refl _ _).alloc (Nat.le_refl _) _
 have HBw14 := Lib.hid (HBw13.out.kept hb hsw13)
 have hsw14 := HBw14.out.bel.size
 have HBK : Hid (BkAt w13.heap.size [] [] [] none 0 none 0 none 0 w14) := by
  rw [← hw14]
  exact Lib.hid ⟨CellsAt.new _ _ _ _ (fun j hj => by rcases lt15 (show j < 15 from hj) with rfl | rfl | rfl | rfl | rfl | rfl | rfl | rfl | rfl | rfl | rfl | rfl | rfl | rfl | rfl <;> rfl), OwnV.nil _ _ _, OwnV.nil _ _ _, OwnV.nil _ _ _⟩
 have HC14 := Lib.hid hb
 clear hb
 have x0 := rcell HBw14.out.ga 0 (v := .bool (fl r)) rfl
 have x1 := rcell HBw14.out.ga 1 (v := .int .i64 (slotOf r)) rfl
 have x2 := rcell HBw14.out.ga 2 (v := .slice p1 (payL r).length c1) rfl
 have x3 := rcell HBw14.out.ga 3 (v := .slice p2 (outL r).length c2) rfl
 have x4 := rcell HBw14.out.ga 4 (v := .slice p3 (hasL r).length c3) rfl
 have x5 := rcell HBw14.out.ga 5 (v := .int .i64 (r.steps : Int)) rfl
 go_wp2_with fail
 refine (bookRan_any w13.heap.size [] [] [] none 0 none 0 none 0 (fl r) (slotOf r) (r.steps : Int) p1 p2 p3 (payL r).length c1 (outL r).length c2 (hasL r).length c3 w14 HBK.out (by simp) (by simp) (by simp)).mono ?_
 rintro e w15 ⟨rfl, ⟨u0, v0, u3, v3, u9, v9, hbk⟩, hb⟩
 have HC15 := Lib.hid (HC14.out.trans hb)
 have HBw15 := Lib.hid (HBw13.out.kept HC15.out hsw13)
 have HBK2 := Lib.hid hbk
 clear x0 x1 x2 x3 x4 x5
 clear hb hbk HBK HC14 HBw14
 have x0 := rcell HBw15.out.gb 0 (v := .bool (fl r)) rfl
 have x1 := rcell HBw15.out.gb 1 (v := .int .i64 (slotOf r)) rfl
 have x2 := rcell HBw15.out.gb 2 (v := .slice q1 (payL r).length d1) rfl
 have x3 := rcell HBw15.out.gb 3 (v := .slice q2 (outL r).length d2) rfl
 have x4 := rcell HBw15.out.gb 4 (v := .slice q3 (hasL r).length d3) rfl
 have x5 := rcell HBw15.out.gb 5 (v := .int .i64 (r.steps : Int)) rfl
 go_wp2_with fail
 refine (bookRan_any w13.heap.size _ _ _ u0 v0 u3 v3 u9 v9 (fl r) (slotOf r) (r.steps : Int) q1 q2 q3 (payL r).length d1 (outL r).length d2 (hasL r).length d3 w15 HBK2.out (by simp) (by simp) (by simp)).mono ?_
 rintro e w16 ⟨rfl, ⟨s0, t0, s3, t3, s9, t9, hbk2⟩, hb⟩
 have HC16 := Lib.hid (HC15.out.trans hb)
 have HBw16 := Lib.hid (HBw13.out.kept HC16.out hsw13)
 have hsw16 := HBw16.out.bel.size
 clear x0 x1 x2 x3 x4 x5
 clear hb HBK2 HC15 HBw15
 have ho0 : OwnV 32 w16 (w13.heap.size + 1) s0 2 t0 [.slice p1 (payL r).length c1, .slice q1 (payL r).length d1] := hbk2.o0
 obtain ⟨g0, rfl, hg0, _⟩ := ho0.form.resolve_left (by omega)
 have L0 := Lib.hid (lists_of ho0 HBw16.out.oa.pay (HBw16.out.ob.pay.weaken (base' := w3.heap.size) hs5) (fun q e1 e2 => by have h1 := HL5.out q (.inl e1); have h2 := HBw16.out.ob.pay.own; rw [e2] at h2; have := (h2.lt q rfl).1; omega) (by decide))
 have ho3 : OwnV 33 w16 (w13.heap.size + 1) s3 2 t3 [.slice p2 (outL r).length c2, .slice q2 (outL r).length d2] := hbk2.o3
 obtain ⟨g3, rfl, hg3, _⟩ := ho3.form.resolve_left (by omega)
 have L3 := Lib.hid (lists_of ho3 HBw16.out.oa.out (HBw16.out.ob.out.weaken (base' := w3.heap.size) hs5) (fun q e1 e2 => by have h1 := HL5.out q (.inr (.inl e1)); have h2 := HBw16.out.ob.out.own; rw [e2] at h2; have := (h2.lt q rfl).1; omega) (by decide))
 have ho9 : OwnV 50 w16 (w13.heap.size + 1) s9 2 t9 [.slice p3 (hasL r).length c3, .slice q3 (hasL r).length d3] := hbk2.o9
 obtain ⟨g9, rfl, hg9, _⟩ := ho9.form.resolve_left (by omega)
 have L9 := Lib.hid (lists_of ho9 HBw16.out.oa.has (HBw16.out.ob.has.weaken (base' := w3.heap.size) hs5) (fun q e1 e2 => by have h1 := HL5.out q (.inr (.inr e1)); have h2 := HBw16.out.ob.has.own; rw [e2] at h2; have := (h2.lt q rfl).1; omega) (by decide))
 have HAP := Lib.hid (bookApart_any w13.heap.size w3.heap.size g0 g3 g9 t0 t3 t9 _ _ _ _ _ _ _ _ _ _ _ (fun _ => hasL r) w16 hbk2.blk L0.out L3.out (L9.out.congr (fun k _ => by split <;> rfl)) (fun k => by have := HS.out; split <;> omega) (fun k => by have := HS.out; split <;> omega) (fun k => by have := HS.out; split <;> omega) hsw16 (by omega) (by omega) (by omega))
 clear ho0 ho3 ho9 L0 L3 L9 hbk2 hg0 hg3 hg9
 go_wp2_with fail
 refine HAP.out.mono ?_
 rintro e w17 ⟨rfl, hb⟩
 have HN17 := Lib.hid (HBw16.out.bel.trans hb)
 have HX17 := Lib.hid (ownP_low HX3.out HN17.out HXL.out)
 have HY17 := Lib.hid (ownV_low HY3.out HN17.out HYL.out)
 have HZ17 := Lib.hid (ownV_low HZO.out HN17.out HZL.out)
 have HB17 := Lib.hid (HB3.out.trans (HN17.out.mono hs3))
 have hs17 := HB17.out.size
 clear hb HAP HBw16 HBw13 HC16
 go_wp2_with fail
 refine (kept_any xo xc a0 len0 cap0 _ ps0 w17 HX17.out (HP.out.below HB17.out (Nat.le_refl _)) HL0.out).mono ?_
 rintro e w18 ⟨rfl, hb⟩
 have HB18 := Lib.hid (HB17.out.trans (hb.mono hs17))
 have HY18 := Lib.hid (HY17.out.kept hb)
 have HZ18 := Lib.hid (HZ17.out.kept hb)
 have hs18 := HB18.out.size
 clear hb
 go_wp2_with fail
 refine (keptB_any yo yc pa1 pn1 pc1 _ pay1 w18 HY18.out (HY.out.below HB18.out (Nat.le_refl _)) HYR.out).mono ?_
 rintro e w19 ⟨rfl, hb⟩
 have HB19 := Lib.hid (HB18.out.trans (hb.mono hs18))
 have HZ19 := Lib.hid (HZ18.out.kept hb)
 have hs19 := HB19.out.size
 clear hb
 go_wp2_with fail
 refine (keptN_any zo zc ia2 im2 ic2 _ inp2 w19 HZ19.out (HU.out.below HB19.out (Nat.le_refl _)) HUR.out).mono ?_
 rintro e w20 ⟨rfl, hb⟩
 have HB20 := Lib.hid (HB19.out.trans (hb.mono hs19))
 clear hb
 go_wp2_with fail
 go_ret
 exact ⟨rfl, HB20.out⟩

end LawVmRuns
end Go.Proofs.YtmpeipdeablkdaaGreatDoor
