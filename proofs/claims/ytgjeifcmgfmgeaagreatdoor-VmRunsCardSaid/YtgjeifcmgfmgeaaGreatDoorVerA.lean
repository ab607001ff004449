/- Package verify: what an operation's rule is; what an instruction reads, and what it touches. -/
import Derived.Test.YtgjeifcmgfmgeaaGreatDoorCodeL
import Derived.Laws.BitsAllLaws
namespace Go.Proofs.YtgjeifcmgfmgeaaGreatDoor
open Go.RowKit

namespace Code

attribute [local go_sem ↓] Go.wp_at_zero Go.wp_at_succ

def fault (no i : Int) : Value := .iface 146 (.agg #[.int .i64 no, .int .i64 0, .int .i64 i])

theorem vat_any (no i : Int) (w : World) : Calls Tryz.prog 134 #[.int .i64 no, .int .i64 i] w fun e w' => e = .returned (fault no i) ∧ w' = w := by
 unfold fault
 go_enter Tryz.func134, Tryz.ntmps134
 go_wp2
 go_ret
 exact ⟨rfl, rfl⟩

def ors (rs : List Nat) : Nat := rs.foldl (fun s r => s ||| 2 ^ r) 0
theorem ors_take {rs : List Nat} {k r : Nat} (h : rs[k]? = some r) : ors (rs.take (k + 1)) = ors (rs.take k) ||| 2 ^ r := by
 rw [List.take_add_one, h]; simp [ors, List.foldl_append]
theorem ors_lt : ∀ (rs : List Nat), (∀ r ∈ rs, r ≤ 15) → ∀ s, s < 65536 → rs.foldl (fun s r => s ||| 2 ^ r) s < 65536
 | [], _, s, h => h
 | r :: l, hr, s, h => by
  refine ors_lt l (fun r' hr' => hr r' (List.mem_cons_of_mem _ hr')) _ ?_
  have h15 := hr r (List.mem_cons_self ..)
  exact Nat.or_lt_two_pow (n := 16) (by omega) (Nat.pow_lt_pow_right (by omega) (by omega))

theorem pow16 {r : Nat} (h : r ≤ 15) : (2 : Nat) ^ r < 65536 := Nat.pow_lt_pow_right (a := 2) (m := r) (n := 16) (by omega) (by omega)

theorem shl16 (r : Nat) (h : r ≤ 15) : IntKind.u16.wrap (2 ^ r : Int) = ((2 ^ r : Nat) : Int) := by
 have h2 := pow16 h
 have e : ((2 : Int) ^ r) = ((2 ^ r : Nat) : Int) := by push_cast; rfl
 rw [e, IntKind.wrap_u16]
 generalize (2 : Nat) ^ r = m at *
 omega

set_option maxHeartbeats 1600000 in
theorem vof_any (b n cap : Nat) (rs : List Nat) (w : World) (hn : n = rs.length) (hn4 : n ≤ 4) (hr : ∀ r ∈ rs, r ≤ 15) (hc : ∀ (j : Nat) r, rs[j]? = some r → w.cell? ⟨b, j, none⟩ = some (.int .i64 (r : Int))) :
    Calls Tryz.prog 137 #[.slice (some ⟨b, 0, none⟩) n cap] w fun e w' => e = .returned (.int .u16 (ors rs)) ∧ w' = w := by
 have HR := Lib.hid hr
 have HC := Lib.hid hc
 have HN := Lib.hid hn
 clear hr hc hn
 go_enter Tryz.func137, Tryz.ntmps137
 go_wp2_with fail
 go_loop [3, 8] (fun s i => ∃ k : Nat, i = .int .i64 k ∧ k ≤ n ∧ s = .int .u16 (ors (rs.take k))) (fun _ i => n - (intOf i).toNat)
 case atStart => exact ⟨0, rfl, Nat.zero_le _, rfl⟩
 case round =>
  obtain ⟨k, rfl, hk, rfl⟩ := hrel
  by_cases hlt : k < n
  ·have hrk : rs[k]? = some (rs[k]'(by have := HN.out; omega)) := List.getElem?_eq_getElem _
   generalize rs[k]'(by have := HN.out; omega) = r at hrk
   have h15 : r ≤ 15 := HR.out r (List.mem_of_getElem? hrk)
   have hcell := HC.out k r hrk
   have hs := ors_lt (rs.take k) (fun r' hr' => HR.out r' (List.mem_of_mem_take hr')) 0 (by omega)
   have hsh := shl16 r h15
   have h2 := pow16 h15
   have hor := u16_or_nat (ors (rs.take k)) (2 ^ r) hs h2
   have HT := Lib.hid (ors_take hrk)
   clear hrk
   generalize ors (rs.take k) = s at *
   rw [show ((2 ^ r : Nat) : Int) = (2 : Int) ^ r by push_cast; rfl] at hor
   have HO := Lib.hid hor
   clear hor
   go_wp2_with fail
   go_round
   case rel => exact ⟨k + 1, by go_num, by omega, by rw [HT.out, HO.out]⟩
   case measure => simp [intOf]; omega
  ·obtain rfl : k = n := by omega
   go_wp2_with fail
   go_ret
   exact ⟨ret_int (by rw [List.take_of_length_le (by have := HN.out; omega)]), rfl⟩

/-- the functions of an operation's rule -/
def rdFn (o : Int) : Nat :=
 if o = 2 then 160 else if 3 ≤ o ∧ o ≤ 5 then 161 else if (6 ≤ o ∧ o ≤ 8) ∨ (11 ≤ o ∧ o ≤ 14) ∨ o = 16 ∨ o = 17 ∨ o = 19 then 162 else 158
def wrB (o : Int) : Bool := decide (1 ≤ o ∧ o ≤ 10) || decide (o = 14) || decide (o = 15)
def tcFn (o : Int) : Nat :=
 if 9 ≤ o ∧ o ≤ 13 then 163 else if 15 ≤ o ∧ o ≤ 17 then 164 else if 18 ≤ o ∧ o ≤ 19 then 165 else 159

end Code
end Go.Proofs.YtgjeifcmgfmgeaaGreatDoor
