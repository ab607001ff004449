/- Go's library: errors.Is and errors.As at the errors of the program: closed facts. -/
/- Go's library: errors.Is at the errors of the program. -/
/- busbarkit: an error's number, its place. -/
/- Package verify: a program's error as an error of the program; what each statement asks first. -/
import Derived.Test.YtdpjbnjlognmeaaGreatDoorVerQ
import Derived.LaidEql
import Derived.Stop.Asserts
import Derived.RowKitTokens
namespace Go.Proofs.YtdpjbnjlognmeaaGreatDoor
open Go.RowKit Go.Extern.Stop Go.Stop Go.Extern

namespace Code

theorem isTypeOf (v : Value) (w : World) : (Extern.ReflectliteType.typeOf #[.iface 71 v]).run Tryz.prog w = .ok (.iface 132 (.agg #[.pointer (some ⟨10, 71, none⟩)])) w := by kernel_rfl
theorem isComparable (w : World) : ((Extern.ReflectliteType.method fun t => do Go.Extern.Rtype.noPackHeld "Comparable" t; (fun a => Value.bool a.comparable) <$> typeInfo t) #[.agg #[.pointer (some ⟨10, 71, none⟩)]]).run Tryz.prog w = .ok (.bool true) w := by kernel_rfl
theorem isMethodComparable (v : Value) (w : World) : (Go.method 389 132 v "Comparable").run Tryz.prog w = .ok (201, v) w := by kernel_rfl

theorem noIsE (v : Value) (xT : TypeId) (w : World) : (Instr.typeAssert (.iface 71 v) xT 134 true).run Tryz.prog w = .ok (.tuple #[.nilIface, .bool false]) w := run_typeAssert_lacksB Tryz.underlying134 (by kernel_rfl) (by kernel_rfl) v xT w
theorem noUnwrapE (v : Value) (xT : TypeId) (w : World) : (Instr.typeAssert (.iface 71 v) xT 137 true).run Tryz.prog w = .ok (.tuple #[.nilIface, .bool false]) w := run_typeAssert_lacksB Tryz.underlying137 (by kernel_rfl) (by kernel_rfl) v xT w
theorem noUnwrapsE (v : Value) (xT : TypeId) (w : World) : (Instr.typeAssert (.iface 71 v) xT 138 true).run Tryz.prog w = .ok (.tuple #[.nilIface, .bool false]) w := run_typeAssert_lacksB Tryz.underlying138 (by kernel_rfl) (by kernel_rfl) v xT w
theorem noIsF (v : Value) (xT : TypeId) (w : World) : (Instr.typeAssert (.iface 92 v) xT 134 true).run Tryz.prog w = .ok (.tuple #[.nilIface, .bool false]) w := run_typeAssert_lacksB Tryz.underlying134 (by kernel_rfl) (by kernel_rfl) v xT w
theorem hasUnwrapF (v : Value) (xT : TypeId) (w : World) : (Instr.typeAssert (.iface 92 v) xT 137 true).run Tryz.prog w = .ok (.tuple #[.iface 92 v, .bool true]) w := run_typeAssert_hasB Tryz.underlying137 (by kernel_rfl) v xT w
theorem methodUnwrap (v : Value) (w : World) : (Go.method 389 92 v "Unwrap").run Tryz.prog w = .ok (197, v) w := by kernel_rfl

theorem unwrap_any (no l i : Int) (w : World) : Calls Tryz.prog 197 #[.agg #[.int .i64 no, .int .i64 l, .int .i64 i]] w fun e w' => e = .returned (.iface 71 (.int .i64 no)) ∧ Below w.heap.size w w' := by
 go_enter Tryz.func197, Tryz.ntmps197
 go_wp2
 go_ret
 exact ⟨rfl, (Below.refl _ _).alloc (Nat.le_refl _) _⟩

/-- two numbers of errors, as errors, are the same just if they are as numbers -/
theorem eqErrno (a b : Int) (w : World) : (binOp .eql 32 (.iface 71 (.int .i64 a)) (.iface 71 (.int .i64 b))).run Tryz.prog w = .ok (.bool (a == b)) w := by
 obtain ⟨i, hi, hc⟩ := Option.map_eq_some_iff.1 (show (Tryz.prog.info? 71).map (·.comparable) = some true by kernel_rfl)
 have h : ∀ d : Nat, (Op.equalIn (d + 2) 32 (.iface 71 (.int .i64 a)) (.iface 71 (.int .i64 b))).run Tryz.prog w = .ok (a == b) w := fun d => by
  simp [Op.equalIn, run_underlying Tryz.underlying32, run_underlying Tryz.underlying71, typeInfo, hi, hc]
 simp only [binOp]
 simp [Op.equal, Op.maxDepth, h 9998]

theorem eqFault (v : Value) (b : Int) (w : World) : (binOp .eql 32 (.iface 92 v) (.iface 71 (.int .i64 b))).run Tryz.prog w = .ok (.bool false) w :=
 run_eql_iface_types _ _ _ _ Tryz.underlying32 (by decide) w

set_option maxRecDepth 100000 in
set_option maxHeartbeats 1600000 in
theorem is_errno (n k : Int) (w : World) : Calls Tryz.prog 62 #[.iface 71 (.int .i64 n), .iface 71 (.int .i64 k), .bool true] w fun e w' => e = .returned (.bool (n == k)) ∧ w' = w := by
 have nE := noIsE
 have uE := noUnwrapE
 have vE := noUnwrapsE
 have qE := eqErrno n k
 cases hq : (n == k) with
 | true =>
  rw [hq] at qE
  go_enter Tryz.func62, Tryz.ntmps62
  go_wp2
  refine wp_loop_rounds 1 ?_
  rw [rounds_succ]
  go_wp2
  go_ret
  exact ⟨rfl, rfl⟩
 | false =>
  rw [hq] at qE
  go_enter Tryz.func62, Tryz.ntmps62
  go_wp2
  refine wp_loop_rounds 1 ?_
  rw [rounds_succ]
  go_wp2
  go_ret
  exact ⟨rfl, rfl⟩

set_option maxRecDepth 100000 in
set_option maxHeartbeats 1600000 in
theorem is_fault (no l i k : Int) (w : World) : Calls Tryz.prog 62 #[.iface 92 (.agg #[.int .i64 no, .int .i64 l, .int .i64 i]), .iface 71 (.int .i64 k), .bool true] w fun e w' => e = .returned (.bool (no == k)) ∧ Below w.heap.size w w' := by
 have nE := noIsE
 have uE := noUnwrapE
 have vE := noUnwrapsE
 have nF := noIsF
 have uF := hasUnwrapF
 have mF := methodUnwrap
 have qF := eqFault (.agg #[.int .i64 no, .int .i64 l, .int .i64 i]) k
 have qE := eqErrno no k
 cases hq : (no == k) with
 | true =>
  rw [hq] at qE
  go_enter Tryz.func62, Tryz.ntmps62
  go_wp2
  refine wp_loop_rounds 2 ?_
  rw [rounds_succ]
  go_wp2_with (go_at_call 197; refine (unwrap_any _ _ _ _).mono ?_; rintro e w1 ⟨rfl, hb1⟩)
  rw [rounds_succ]
  go_wp2
  go_ret
  exact ⟨rfl, hb1⟩
 | false =>
  rw [hq] at qE
  go_enter Tryz.func62, Tryz.ntmps62
  go_wp2
  refine wp_loop_rounds 2 ?_
  rw [rounds_succ]
  go_wp2_with (go_at_call 197; refine (unwrap_any _ _ _ _).mono ?_; rintro e w1 ⟨rfl, hb1⟩)
  rw [rounds_succ]
  go_wp2
  go_ret
  exact ⟨rfl, hb1⟩

end Code
end Go.Proofs.YtdpjbnjlognmeaaGreatDoor

namespace Go.Proofs.YtdpjbnjlognmeaaGreatDoor
open Go.RowKit Go.Extern.Stop Go.Stop Go.Extern

namespace Code

/-- the number of an error of the program -/
inductive IsErr : Value → Int → Prop where
 | errno (n : Int) : IsErr (errno n) n
 | fault (n l i : Int) : IsErr (.iface 92 (.agg #[.int .i64 n, .int .i64 l, .int .i64 i])) n

set_option maxRecDepth 100000 in
set_option maxHeartbeats 1600000 in
theorem errorsIs_any (v : Value) (n k : Int) (h : IsErr v n) (w : World) : Calls Tryz.prog 40 #[v, .iface 71 (.int .i64 k)] w fun e w' => e = .returned (.bool (n == k)) ∧ Below w.heap.size w w' := by
 have h8 := @run_callFunc_extern Tryz.prog 61 _ Extern.ReflectliteType.typeOf Tryz.func61 (by kernel_rfl) (by kernel_rfl) (by kernel_rfl) (by kernel_rfl)
 have h32 := @run_callFunc_extern Tryz.prog 201 _ (Extern.ReflectliteType.method fun t => do Go.Extern.Rtype.noPackHeld "Comparable" t; pure (.bool (← typeInfo t).comparable)) Tryz.func201 (by kernel_rfl) (by kernel_rfl) (by kernel_rfl) (by kernel_rfl)
 have tT := isTypeOf
 have cT := isComparable
 have mR := isMethodComparable
 cases h with
 | errno n =>
  unfold errno
  go_enter Tryz.func40, Tryz.ntmps40
  go_wp2_with (go_at_call 62; refine (is_errno _ _ _).mono ?_; rintro e w1 ⟨rfl, rfl⟩)
  go_ret
  exact ⟨rfl, Below.refl _ _⟩
 | fault n l i =>
  go_enter Tryz.func40, Tryz.ntmps40
  go_wp2_with (go_at_call 62; refine (is_fault _ _ _ _ _).mono ?_; rintro e w1 ⟨rfl, hb1⟩)
  go_ret
  exact ⟨rfl, hb1⟩

end Code
end Go.Proofs.YtdpjbnjlognmeaaGreatDoor

namespace Go.Proofs.YtdpjbnjlognmeaaGreatDoor
open Go.RowKit

namespace Code

attribute [local go_sem ↓] Go.wp_at_zero Go.wp_at_succ

/-- errors of the program -/
inductive Er where
 | nil
 | plain (n : Nat)
 | fault (n : Nat) (i : Int)

def Er.val : Er → Value
 | .nil => .nilIface
 | .plain n => .iface 71 (.int .i64 n)
 | .fault n i => .iface 92 (.agg #[.int .i64 n, .int .i64 0, .int .i64 i])
def Er.num : Er → Nat
 | .nil => 0
 | .plain n => n
 | .fault n _ => n
def Er.ok : Er → Prop
 | .nil => True
 | .plain n => 1 ≤ n ∧ n ≤ 26
 | .fault n _ => 1 ≤ n ∧ n ≤ 26
def Er.isNil : Er → Bool
 | .nil => true
 | _ => false
def Er.place : Er → Int × Bool
 | .fault _ i => (i, true)
 | _ => (0, false)

theorem Er.shape (e : Er) (h : e.isNil = false) : ∃ T x, e.val = .iface T x := by
 cases e with
 | nil => simp [Er.isNil] at h
 | plain n => exact ⟨_, _, rfl⟩
 | fault n i => exact ⟨_, _, rfl⟩
theorem Er.isErr (e : Er) (h : e.isNil = false) : IsErr e.val e.num := by
 cases e with
 | nil => simp [Er.isNil] at h
 | plain n => exact .errno _
 | fault n i => exact .fault _ _ _

theorem num_nil (w : World) : Calls Tryz.prog 22 #[.nilIface] w fun e w' => e = .returned (.int .i64 0) ∧ w' = w := by
 go_enter Tryz.func22, Tryz.ntmps22
 go_wp2
 go_ret
 exact ⟨rfl, rfl⟩

set_option maxRecDepth 100000 in
set_option maxHeartbeats 1600000 in
theorem num_err (T : TypeId) (x : Value) (n : Nat) (hv : IsErr (.iface T x) n) (h1 : 1 ≤ n) (h26 : n ≤ 26) (w : World) : Calls Tryz.prog 22 #[.iface T x] w fun e w' => e = .returned (.int .i64 n) ∧ Below w.heap.size w w' := by
 have HV := Lib.hid hv
 clear hv
 go_enter Tryz.func22, Tryz.ntmps22
 go_wp2_with fail
 go_loopw [3, 4] (fun f i wr => ∃ k : Nat, i = .int .i64 k ∧ 1 ≤ k ∧ k ≤ 27 ∧ f = .int .i64 ((if n < k then n else 0 : Nat) : Int) ∧ Below w.heap.size w wr) (fun _ i _ => 27 - (intOf i).toNat)
 case atStart => exact ⟨1, rfl, by omega, by omega, by rw [if_neg (by omega)]; rfl, Below.refl _ _⟩
 case round =>
  obtain ⟨k, rfl, hk1, hk2, rfl, hb⟩ := hrel
  have HB := Lib.hid hb
  have hsz := hb.size
  clear hb
  by_cases hlt : k ≤ 26
  ·have hc : decide ((k : Int) ≤ 26) = true := by simp; omega
   by_cases he : n = k
   ·subst he
    rw [if_neg (by omega)]
    go_wp2_with fail
    refine (errorsIs_any _ _ n HV.out _).mono ?_
    rintro e w1 ⟨rfl, hb1⟩
    have HB1 := Lib.hid (HB.out.trans (hb1.mono hsz))
    clear hb1
    go_wp2_with fail
    go_roundw
    case rel => exact ⟨n + 1, by go_num, by omega, by omega, by rw [if_pos (by omega)], HB1.out⟩
    case measure => simp [intOf]; omega
   ·have hne : ((n : Int) == (k : Int)) = false := by simp; omega
    have HE := Lib.hid he
    clear he
    generalize hf : (if n < k then n else 0) = f at *
    have HF := Lib.hid hf
    clear hf
    go_wp2_with fail
    refine (errorsIs_any _ _ k HV.out _).mono ?_
    rintro e w1 ⟨rfl, hb1⟩
    have HB1 := Lib.hid (HB.out.trans (hb1.mono hsz))
    clear hb1
    go_wp2_with fail
    go_roundw
    case rel =>
     refine ⟨k + 1, by go_num, by omega, by omega, ?_, HB1.out⟩
     rw [← HF.out]
     have := HE.out
     by_cases h : n < k
     ·rw [if_pos h, if_pos (by omega)]
     ·rw [if_neg h, if_neg (by omega)]
    case measure => simp [intOf]; omega
  ·obtain rfl : k = 27 := by omega
   rw [if_pos (by omega)]
   have hn0 : ((n : Int) == 0) = false := by simp; omega
   go_wp2_with fail
   refine (errorsIs_any _ _ 0 HV.out _).mono ?_
   rintro e w1 ⟨rfl, hb1⟩
   have HB1 := Lib.hid (HB.out.trans (hb1.mono hsz))
   clear hb1
   go_wp2_with fail
   go_ret
   exact ⟨rfl, HB1.out⟩

theorem num_any (e : Er) (h : e.ok) (w : World) : Calls Tryz.prog 22 #[e.val] w fun r w' => r = .returned (.int .i64 e.num) ∧ Below w.heap.size w w' := by
 cases e with
 | nil => exact (num_nil w).mono fun _ _ ⟨he, hw⟩ => ⟨he, by rw [hw]; exact Below.refl _ _⟩
 | plain n => exact num_err _ _ n (.errno _) h.1 h.2 w
 | fault n i => exact num_err _ _ n (.fault _ _ _) h.1 h.2 w

end Code
end Go.Proofs.YtdpjbnjlognmeaaGreatDoor

namespace Go.Proofs.YtdpjbnjlognmeaaGreatDoor
open Go.RowKit

namespace Code

attribute [local go_sem ↓] Go.wp_at_zero Go.wp_at_succ

def erOf (r : Int × Option Nat) : Er := if r.1 = 0 then .nil else match r.2 with
 | none => .plain r.1.toNat
 | some i => .fault r.1.toNat i

theorem touch_range (x : B.Ins) (size slots left : Int) : 0 ≤ x.touch size slots left ∧ x.touch size slots left ≤ 26 := by
 unfold B.Ins.touch
 repeat' split
 all_goals omega

theorem firstTouch_range {size slots : Int} {len : Nat} : ∀ (l : List B.Ins) (i : Nat) (e : Int) (j : Nat), B.firstTouch size slots len i l = some (e, j) → 0 ≤ e ∧ e ≤ 26
 | [], i, e, j, h => by simp [B.firstTouch] at h
 | x :: r, i, e, j, h => by
  rw [firstTouch_step] at h
  split at h
  ·simp at h; omega
  ·split at h
   ·simp at h
    rw [← h.1]
    exact touch_range _ _ _ _
   ·exact firstTouch_range r _ _ _ h

theorem program_range (ps : List B.Ins) (size slots : Int) : 0 ≤ (B.program ps size slots).1 ∧ (B.program ps size slots).1 ≤ 26 := by
 unfold B.program
 split
 ·simp
 ·split
  ·simp
  ·cases h : B.firstTouch size slots ps.length 0 ps with
   | some p => obtain ⟨e, i⟩ := p; exact firstTouch_range _ _ _ _ h
   | none => cases B.firstRead ps <;> simp

def progEr (ps : List B.Ins) (size slots : Int) : Er := erOf (B.program ps size slots)

theorem progEr_val (ps : List B.Ins) (size slots : Int) : progErr (B.program ps size slots) = (progEr ps size slots).val := by
 have h := program_range ps size slots
 unfold progErr progEr erOf
 generalize B.program ps size slots = r at h ⊢
 obtain ⟨n, o⟩ := r
 simp only at h ⊢
 by_cases h0 : n = 0
 ·rw [if_pos h0, if_pos h0]; rfl
 ·rw [if_neg h0, if_neg h0]
  have e : ((n.toNat : Nat) : Int) = n := by omega
  cases o with
  | none => simp only [Er.val, errno, e]
  | some i => simp only [Er.val, fault, e]

theorem progEr_ok (ps : List B.Ins) (size slots : Int) : (progEr ps size slots).ok := by
 have h := program_range ps size slots
 unfold progEr erOf
 generalize B.program ps size slots = r at h ⊢
 obtain ⟨n, o⟩ := r
 simp only at h ⊢
 by_cases h0 : n = 0
 ·rw [if_pos h0]; trivial
 ·rw [if_neg h0]
  cases o with
  | none => exact ⟨by omega, by omega⟩
  | some i => exact ⟨by omega, by omega⟩

/-- Program answers an error of the program -/
theorem program_er (a : Option Addr) (len cap : Nat) (ps : List B.Ins) (size slots : Int) (w : World) (hp : ProgAt w a len ps) (hwf : ∀ y ∈ ps, y.Wf) (ht : Tabs w) (hr : len ≤ 9223372036854775807) :
    Calls Tryz.prog 55 #[.slice a len cap, .int .i64 size, .int .i64 slots] w fun e w' => e = .returned (progEr ps size slots).val ∧ Below w.heap.size w w' := by
 have := program_any a len cap ps size slots w hp hwf ht hr
 unfold ProgOut at this
 rw [progEr_val] at this
 exact this

theorem program_yes (a : Option Addr) (len cap : Nat) (ps : List B.Ins) (size slots : Int) (w : World) (hp : ProgAt w a len ps) (hwf : ∀ y ∈ ps, y.Wf) (ht : Tabs w) (hr : len ≤ 9223372036854775807) (hm : B.MayRun ps size slots) :
    Calls Tryz.prog 55 #[.slice a len cap, .int .i64 size, .int .i64 slots] w fun e w' => e = .returned .nilIface ∧ Below w.heap.size w w' := by
 have := program_er a len cap ps size slots w hp hwf ht hr
 have e : progEr ps size slots = .nil := by unfold progEr; rw [(B.program_ok ps size slots).2 hm]; rfl
 rw [e] at this
 exact this

theorem program_no (a : Option Addr) (len cap : Nat) (ps : List B.Ins) (size slots : Int) (w : World) (hp : ProgAt w a len ps) (hwf : ∀ y ∈ ps, y.Wf) (ht : Tabs w) (hr : len ≤ 9223372036854775807) (hm : ¬ B.MayRun ps size slots) :
    Calls Tryz.prog 55 #[.slice a len cap, .int .i64 size, .int .i64 slots] w fun e w' => (∃ T v, e = .returned (.iface T v)) ∧ Below w.heap.size w w' := by
 refine (program_er a len cap ps size slots w hp hwf ht hr).mono ?_
 rintro e w' ⟨rfl, hb⟩
 have hn : (progEr ps size slots).isNil = false := by
  cases h : (progEr ps size slots).isNil with
  | false => rfl
  | true =>
   exfalso
   apply hm
   rw [← B.program_ok]
   unfold progEr erOf at h
   have hr := program_range ps size slots
   generalize hq : B.program ps size slots = r at h hr
   obtain ⟨n, o⟩ := r
   by_cases h0 : n = 0
   ·subst h0
    cases o with
    | none => rfl
    | some i =>
     exfalso
     unfold B.program at hq
     split at hq
     ·simp at hq
     ·split at hq
      ·simp at hq
      ·cases hf : B.firstTouch size slots ps.length 0 ps with
       | some p =>
        obtain ⟨e, j⟩ := p
        rw [hf] at hq
        simp at hq
        exact firstTouch_ne _ _ _ _ hf hq.1
       | none =>
        rw [hf] at hq
        cases hfr : B.firstRead ps with
        | none => rw [hfr] at hq; simp at hq
        | some k => rw [hfr] at hq; simp at hq
   ·simp only [if_neg h0] at h
    cases o <;> simp [Er.isNil] at h
 obtain ⟨T, v, hv⟩ := Er.shape _ hn
 exact ⟨⟨T, v, by rw [hv]⟩, hb⟩

/-- a block whose cells are instructions -/
theorem progAt_new (ps : List B.Ins) (C : Array Value) (n : Nat) (t : TypeId) (w : World) (hC : C.toList = cellsP ps) (hn : n = ps.length) : ProgAt (w.alloc (.cells C t)) (some ⟨w.heap.size, 0, none⟩) n ps := by
 refine ⟨hn, fun i x hx => ⟨w.heap.size, 0, rfl, by simp, ?_⟩⟩
 have hb := heap_alloc_new w (.cells C t)
 have hc : ∀ j u, (cellsI x)[j]? = some u → (w.alloc (.cells C t)).cell? ⟨w.heap.size, 0 + i * 5 + j, none⟩ = some u := by
  intro j u hu
  have hj : j < 5 := by have := (List.getElem?_eq_some_iff.1 hu).1; rw [cellsI_length] at this; exact this
  rw [cell_of_row _ _ _ _ _ _ hb, ← Array.getElem?_toList, hC, Nat.zero_add, cellsP_get ps i x hx j hj]
  exact hu
 exact ⟨hc 0 _ rfl, hc 1 _ rfl, hc 2 _ rfl, hc 3 _ rfl, hc 4 _ rfl⟩

theorem progAt_drop {w : World} {b off n k m : Nat} {ps : List B.Ins} (h : ProgAt w (some ⟨b, off, none⟩) n ps) (hm : m = n - k) : ProgAt w (some ⟨b, off + k * 5, none⟩) m (ps.drop k) := by
 refine ⟨by rw [List.length_drop, ← h.len]; exact hm, fun i x hx => ?_⟩
 rw [List.getElem?_drop] at hx
 obtain ⟨b', off', e, hlt, hat⟩ := h.at_ (k + i) x hx
 simp only [Option.some.injEq, Addr.mk.injEq] at e
 obtain ⟨rfl, rfl, _⟩ := e
 refine ⟨b, off + k * 5, rfl, hlt, ?_⟩
 rw [show off + k * 5 + i * 5 = off + (k + i) * 5 by omega]
 exact hat

theorem progAt_nil (w : World) : ProgAt w none 0 [] := ⟨rfl, fun i x hx => by simp at hx⟩

instance (n : Int) : Decidable (B.In64 n) := inferInstanceAs (Decidable (_ ∧ _))
instance (n : Int) : Decidable (B.InU64 n) := inferInstanceAs (Decidable (_ ∧ _))

end Code
end Go.Proofs.YtdpjbnjlognmeaaGreatDoor
