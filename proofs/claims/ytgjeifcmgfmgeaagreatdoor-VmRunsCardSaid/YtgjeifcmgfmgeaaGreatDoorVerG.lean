/- Package verify: a program's error as an error of the program; what each statement asks first. -/
import Derived.Test.YtgjeifcmgfmgeaaGreatDoorErrG
namespace Go.Proofs.YtgjeifcmgfmgeaaGreatDoor
open Go.RowKit

namespace Code

attribute [local go_sem ↓] Go.wp_at_zero Go.wp_at_succ

def erOf (r : Int × Option Nat) : Er := if r.1 = 0 then .nil else match r.2 with
 | none => .plain r.1.toNat
 | some i => .fault r.1.toNat i

theorem touch_range (x : B.Ins) (size slots left : Int) : 0 ≤ x.touch size slots left ∧ x.touch size slots left ≤ 26 := by
 unfold B.Ins.touch
 repeat' split
 all_goals omega

theorem firstTouch_range {size slots : Int} {len : Nat} : ∀ (l : List B.Ins) (i : Nat) (e : Int) (j : Nat), B.firstTouch size slots len i l = some (e, j) → 0 ≤ e ∧ e ≤ 26
 | [], i, e, j, h => by simp [B.firstTouch] at h
 | x :: r, i, e, j, h => by
  rw [firstTouch_step] at h
  split at h
  ·simp at h; omega
  ·split at h
   ·simp at h
    rw [← h.1]
    exact touch_range _ _ _ _
   ·exact firstTouch_range r _ _ _ h

theorem program_range (ps : List B.Ins) (size slots : Int) : 0 ≤ (B.program ps size slots).1 ∧ (B.program ps size slots).1 ≤ 26 := by
 unfold B.program
 split
 ·simp
 ·split
  ·simp
  ·cases h : B.firstTouch size slots ps.length 0 ps with
   | some p => obtain ⟨e, i⟩ := p; exact firstTouch_range _ _ _ _ h
   | none => cases B.firstRead ps <;> simp

def progEr (ps : List B.Ins) (size slots : Int) : Er := erOf (B.program ps size slots)

theorem progEr_val (ps : List B.Ins) (size slots : Int) : progErr (B.program ps size slots) = (progEr ps size slots).val := by
 have h := program_range ps size slots
 unfold progErr progEr erOf
 generalize B.program ps size slots = r at h ⊢
 obtain ⟨n, o⟩ := r
 simp only at h ⊢
 by_cases h0 : n = 0
 ·rw [if_pos h0, if_pos h0]; rfl
 ·rw [if_neg h0, if_neg h0]
  have e : ((n.toNat : Nat) : Int) = n := by omega
  cases o with
  | none => simp only [Er.val, errno, e]
  | some i => simp only [Er.val, fault, e]

theorem progEr_ok (ps : List B.Ins) (size slots : Int) : (progEr ps size slots).ok := by
 have h := program_range ps size slots
 unfold progEr erOf
 generalize B.program ps size slots = r at h ⊢
 obtain ⟨n, o⟩ := r
 simp only at h ⊢
 by_cases h0 : n = 0
 ·rw [if_pos h0]; trivial
 ·rw [if_neg h0]
  cases o with
  | none => exact ⟨by omega, by omega⟩
  | some i => exact ⟨by omega, by omega⟩

/-- Program answers an error of the program -/
theorem program_er (a : Option Addr) (len cap : Nat) (ps : List B.Ins) (size slots : Int) (w : World) (hp : ProgAt w a len ps) (hwf : ∀ y ∈ ps, y.Wf) (ht : Tabs w) (hr : len ≤ 9223372036854775807) :
    Calls Tryz.prog 36 #[.slice a len cap, .int .i64 size, .int .i64 slots] w fun e w' => e = .returned (progEr ps size slots).val ∧ Below w.heap.size w w' := by
 have := program_any a len cap ps size slots w hp hwf ht hr
 unfold ProgOut at this
 rw [progEr_val] at this
 exact this

theorem program_yes (a : Option Addr) (len cap : Nat) (ps : List B.Ins) (size slots : Int) (w : World) (hp : ProgAt w a len ps) (hwf : ∀ y ∈ ps, y.Wf) (ht : Tabs w) (hr : len ≤ 9223372036854775807) (hm : B.MayRun ps size slots) :
    Calls Tryz.prog 36 #[.slice a len cap, .int .i64 size, .int .i64 slots] w fun e w' => e = .returned .nilIface ∧ Below w.heap.size w w' := by
 have := program_er a len cap ps size slots w hp hwf ht hr
 have e : progEr ps size slots = .nil := by unfold progEr; rw [(B.program_ok ps size slots).2 hm]; rfl
 rw [e] at this
 exact this

theorem program_no (a : Option Addr) (len cap : Nat) (ps : List B.Ins) (size slots : Int) (w : World) (hp : ProgAt w a len ps) (hwf : ∀ y ∈ ps, y.Wf) (ht : Tabs w) (hr : len ≤ 9223372036854775807) (hm : ¬ B.MayRun ps size slots) :
    Calls Tryz.prog 36 #[.slice a len cap, .int .i64 size, .int .i64 slots] w fun e w' => (∃ T v, e = .returned (.iface T v)) ∧ Below w.heap.size w w' := by
 refine (program_er a len cap ps size slots w hp hwf ht hr).mono ?_
 rintro e w' ⟨rfl, hb⟩
 have hn : (progEr ps size slots).isNil = false := by
  cases h : (progEr ps size slots).isNil with
  | false => rfl
  | true =>
   exfalso
   apply hm
   rw [← B.program_ok]
   unfold progEr erOf at h
   have hr := program_range ps size slots
   generalize hq : B.program ps size slots = r at h hr
   obtain ⟨n, o⟩ := r
   by_cases h0 : n = 0
   ·subst h0
    cases o with
    | none => rfl
    | some i =>
     exfalso
     unfold B.program at hq
     split at hq
     ·simp at hq
     ·split at hq
      ·simp at hq
      ·cases hf : B.firstTouch size slots ps.length 0 ps with
       | some p =>
        obtain ⟨e, j⟩ := p
        rw [hf] at hq
        simp at hq
        exact firstTouch_ne _ _ _ _ hf hq.1
       | none =>
        rw [hf] at hq
        cases hfr : B.firstRead ps with
        | none => rw [hfr] at hq; simp at hq
        | some k => rw [hfr] at hq; simp at hq
   ·simp only [if_neg h0] at h
    cases o <;> simp [Er.isNil] at h
 obtain ⟨T, v, hv⟩ := Er.shape _ hn
 exact ⟨⟨T, v, by rw [hv]⟩, hb⟩

/-- a block whose cells are instructions -/
theorem progAt_new (ps : List B.Ins) (C : Array Value) (n : Nat) (t : TypeId) (w : World) (hC : C.toList = cellsP ps) (hn : n = ps.length) : ProgAt (w.alloc (.cells C t)) (some ⟨w.heap.size, 0, none⟩) n ps := by
 refine ⟨hn, fun i x hx => ⟨w.heap.size, 0, rfl, by simp, ?_⟩⟩
 have hb := heap_alloc_new w (.cells C t)
 have hc : ∀ j u, (cellsI x)[j]? = some u → (w.alloc (.cells C t)).cell? ⟨w.heap.size, 0 + i * 5 + j, none⟩ = some u := by
  intro j u hu
  have hj : j < 5 := by have := (List.getElem?_eq_some_iff.1 hu).1; rw [cellsI_length] at this; exact this
  rw [cell_of_row _ _ _ _ _ _ hb, ← Array.getElem?_toList, hC, Nat.zero_add, cellsP_get ps i x hx j hj]
  exact hu
 exact ⟨hc 0 _ rfl, hc 1 _ rfl, hc 2 _ rfl, hc 3 _ rfl, hc 4 _ rfl⟩

theorem progAt_drop {w : World} {b off n k m : Nat} {ps : List B.Ins} (h : ProgAt w (some ⟨b, off, none⟩) n ps) (hm : m = n - k) : ProgAt w (some ⟨b, off + k * 5, none⟩) m (ps.drop k) := by
 refine ⟨by rw [List.length_drop, ← h.len]; exact hm, fun i x hx => ?_⟩
 rw [List.getElem?_drop] at hx
 obtain ⟨b', off', e, hlt, hat⟩ := h.at_ (k + i) x hx
 simp only [Option.some.injEq, Addr.mk.injEq] at e
 obtain ⟨rfl, rfl, _⟩ := e
 refine ⟨b, off + k * 5, rfl, hlt, ?_⟩
 rw [show off + k * 5 + i * 5 = off + (k + i) * 5 by omega]
 exact hat

theorem progAt_nil (w : World) : ProgAt w none 0 [] := ⟨rfl, fun i x hx => by simp at hx⟩

/-- pick -/
def pickV (k n : Int) : Int := if n < 1 then 0 else k % n

set_option maxHeartbeats 1600000 in
theorem pick_any (k n : Int) (hk : B.In64 k) (hn : n ≤ 1000000) (hn0 : -1000000 ≤ n) (w : World) : Calls Tryz.prog 129 #[.int .i64 k, .int .i64 n] w fun e w' => e = .returned (.int .i64 (pickV k n)) ∧ w' = w := by
 unfold B.In64 at hk
 obtain ⟨hk0, hk1⟩ := hk
 unfold pickV
 by_cases h1 : n < 1
 ·rw [if_pos h1]
  go_enter Tryz.func129, Tryz.ntmps129
  go_wp2
  go_ret
  exact ⟨rfl, rfl⟩
 ·rw [if_neg h1]
  have hpos : 0 < n := by omega
  have ht := Int.tmod_lt_of_pos k hpos
  have hb : -n < k.tmod n := by
   have := Int.lt_tmod_of_pos k hpos
   exact this
  have hw : IntKind.i64.wrap (k.tmod n) = k.tmod n := IntWalk.i64_in _ (by omega)
  have hem := @Int.emod_eq_tmod k n
  by_cases h2 : k.tmod n < 0
  ·have hw2 : IntKind.i64.wrap (k.tmod n + n) = k.tmod n + n := IntWalk.i64_in _ (by omega)
   have he : k % n = k.tmod n + n := by
    rw [if_neg ?_] at hem
    ·rw [hem]; omega
    ·rintro (h | h)
     ·have := Int.tmod_nonneg n h; omega
     ·have := Int.tmod_eq_zero_of_dvd h; omega
   have HE := Lib.hid he
   clear he hem ht hb
   go_enter Tryz.func129, Tryz.ntmps129
   go_wp2
   go_ret
   exact ⟨ret_int HE.out.symm, rfl⟩
  ·have he : k % n = k.tmod n := by
     rw [if_pos ?_] at hem
     ·rw [hem]; simp
     ·by_cases h : 0 ≤ k
      ·exact .inl h
      ·right
       apply Int.dvd_of_tmod_eq_zero
       have := Int.tmod_nonneg n (show 0 ≤ -k by omega)
       rw [Int.neg_tmod] at this
       omega
   have HE := Lib.hid he
   clear he hem ht hb
   go_enter Tryz.func129, Tryz.ntmps129
   go_wp2
   go_ret
   exact ⟨ret_int HE.out.symm, rfl⟩

theorem pickV_range (k n : Int) (h : 1 ≤ n) : 0 ≤ pickV k n ∧ pickV k n < n := by
 unfold pickV
 rw [if_neg (by omega)]
 exact ⟨Int.emod_nonneg k (by omega), Int.emod_lt_of_pos k (by omega)⟩

/-- what the walks ask of the world -/
structure Ready (w : World) : Prop where
 tabs : Tabs w
 err : ErrVar w
theorem Ready.below {N : Nat} {w w' : World} (h : Ready w) (hb : Below N w w') (hN : w.heap.size ≤ N) : Ready w' := ⟨h.tabs.below hb hN, h.err.below hb hN⟩

instance (n : Int) : Decidable (B.In64 n) := inferInstanceAs (Decidable (_ ∧ _))
instance (n : Int) : Decidable (B.InU64 n) := inferInstanceAs (Decidable (_ ∧ _))

def p0 : List B.Ins := [⟨15, 0, 0, 0, 0⟩, ⟨11, 0, 0, 2, 0⟩]
theorem p0_wf : ∀ y ∈ p0, y.Wf := by
 intro y hy
 simp [p0] at hy
 rcases hy with rfl | rfl <;> exact ⟨by decide, by decide, by decide, by decide, by decide⟩
theorem p0_run : B.program p0 2 1 = (0, none) := by decide +kernel
theorem p1_run : B.program (p0.drop 1) 2 1 = (21, some 0) := by decide +kernel

end Code
end Go.Proofs.YtgjeifcmgfmgeaaGreatDoor
