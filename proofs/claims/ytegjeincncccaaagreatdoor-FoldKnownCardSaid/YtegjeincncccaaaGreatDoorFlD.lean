/- Package fold: what an operation makes of registers that are known. -/
import Derived.Test.YtegjeincncccaaaGreatDoorFlC
import Derived.Test.YtegjeincncccaaaGreatDoorVmP
namespace Go.Proofs.YtegjeincncccaaaGreatDoor
open Go.RowKit Go.Maps

namespace Code

/-- what an operation makes, in the walk's own words -/
def madeV (o : Int) (A : Nat) (one : Bool) (Bv : Nat) (two : Bool) (n m : Nat) : Nat × Bool :=
 if o = 2 then (Bv, two) else if o = 3 then (A &&& Bv, one && two) else if o = 4 then (A ||| Bv, one && two) else if o = 5 then (A ^^^ Bv, one && two)
 else if o = 6 then (B.shl64 A n, one) else if o = 7 then (A / 2 ^ n, one) else if o = 8 then (A &&& m, one) else if o = 14 then (B.extend A n true, one) else (0, false)

theorem madeV_eq (o a c : Int) (n m : Nat) (K : B.Kn) : (B.Ins.made ⟨o, a, c, n, m⟩ K).isSome = (madeV o ((K a).getD 0) (K a).isSome ((K c).getD 0) (K c).isSome n m).2 ∧
    ∀ z, B.Ins.made ⟨o, a, c, n, m⟩ K = some z → (madeV o ((K a).getD 0) (K a).isSome ((K c).getD 0) (K c).isSome n m).1 = z := by
 unfold B.Ins.made madeV
 simp only [Int.toNat_natCast]
 repeat' split
 all_goals (cases K a <;> cases K c <;> simp [B.both])

set_option maxRecDepth 100000 in
set_option maxHeartbeats 3200000 in
theorem fmade_any (x : B.Ins) (hr : x.right = true) (b n : Nat) (K : B.Kn) (hK : ∀ r v, K r = some v → v < 18446744073709551616) (w : World) (h : KnAt w b n K) :
    Calls Tryz.prog 104 #[.agg #[.int .i64 x.op, .int .i64 x.a, .int .i64 x.b, .int .i64 x.n, .int .u64 x.imm], .map (some b)] w
     (fun e w' => ∃ v : Nat, e = .returned (.tuple #[.int .u64 (v : Int), .bool (x.made K).isSome]) ∧ (∀ z, x.made K = some z → v = z) ∧ Below w.heap.size w w') := by
 have hb := B.right_bounds hr
 have ho := B.op_cases hr
 have hbx := insAt_new x w
 have hn14 : x.op = 14 → 1 ≤ x.n ∧ x.n ≤ 64 := fun e => by
  unfold B.Ins.right at hr
  rw [e] at hr
  simp [B.isOp, B.hasA, B.hiB, B.loN, B.hiN, B.hiImm] at hr
  omega
 have hn67 : (x.op = 6 ∨ x.op = 7) → x.n ≤ 63 := fun e => by
  unfold B.Ins.right at hr
  rcases e with e | e <;> (rw [e] at hr; simp [B.isOp, B.hasA, B.hiB, B.loN, B.hiN, B.hiImm] at hr; omega)
 clear hr
 obtain ⟨o, a, c, nn, mm⟩ := x
 simp only at hb ho hn14 hn67 ⊢
 obtain ⟨k, rfl⟩ : ∃ k : Nat, nn = (k : Int) := ⟨nn.toNat, by omega⟩
 obtain ⟨m, rfl⟩ : ∃ k : Nat, mm = (k : Int) := ⟨mm.toNat, by omega⟩
 have hm : m < 18446744073709551616 := by omega
 obtain ⟨hs, hz⟩ := madeV_eq o a c k m K
 have h' := h.kept (World.grownBy_alloc w (.cells #[.int .i64 o, .int .i64 a, .int .i64 c, .int .i64 (k : Int), .int .u64 (m : Int)] 24) none) (by simp)
 have hA := h'.look a (by unfold B.In64; omega)
 have hC := h'.look c (by unfold B.In64; omega)
 have hAl : (K a).getD 0 < 18446744073709551616 := by
  cases e : K a with
  | none => simp
  | some v => exact hK a v e
 have hCl : (K c).getD 0 < 18446744073709551616 := by
  cases e : K c with
  | none => simp
  | some v => exact hK c v e
 rw [hs]
 generalize (K a).getD 0 = A at hz hA hAl ⊢
 generalize (K a).isSome = one at hz hA ⊢
 generalize (K c).getD 0 = C at hz hC hCl ⊢
 generalize (K c).isSome = two at hz hC ⊢
 have HZ := Lib.hid hz
 have HB : Hid (Below w.heap.size w (w.alloc (.cells #[.int .i64 o, .int .i64 a, .int .i64 c, .int .i64 (k : Int), .int .u64 (m : Int)] 24))) := Lib.hid ((Below.refl _ _).alloc (Nat.le_refl _) _)
 have HA := Lib.hid hAl
 have HC := Lib.hid hCl
 have HN := Lib.hid hn14
 have HS := Lib.hid hn67
 have HM := Lib.hid hm
 clear hz hs h' h hK hAl hCl hn14 hn67 hm
 have HX := Lib.hid hb
 clear hb
 rcases ho with rfl | rfl | rfl | rfl | rfl | rfl | rfl | rfl | rfl | rfl | rfl | rfl | rfl | rfl | rfl | rfl | rfl | rfl | rfl | rfl
 ·go_enter Tryz.func104, Tryz.ntmps104
  go_wp2_with fail
  go_ret2
  exact ⟨0, by simp [madeV], fun z h => by have := HZ.out z h; simpa [madeV] using this, HB.out⟩
 ·go_enter Tryz.func104, Tryz.ntmps104
  go_wp2_with fail
  go_ret2
  exact ⟨0, by simp [madeV], fun z h => by have := HZ.out z h; simpa [madeV] using this, HB.out⟩
 ·go_enter Tryz.func104, Tryz.ntmps104
  go_wp2_with fail
  go_ret2
  exact ⟨C, by simp [madeV], fun z h => by have := HZ.out z h; simpa [madeV] using this, HB.out⟩
 ·have hop : bits .and .u64 (A : Int) (C : Int) = ((A &&& C : Nat) : Int) := u64_and_nat A C HA.out HC.out
  cases one
  all_goals go_enter Tryz.func104, Tryz.ntmps104
  all_goals go_wp2_with fail
  all_goals go_ret2
  all_goals exact ⟨A &&& C, by simp [madeV], fun z h => by have := HZ.out z h; simpa [madeV] using this, HB.out⟩
 ·have hop : bits .or .u64 (A : Int) (C : Int) = ((A ||| C : Nat) : Int) := u64_or_nat A C HA.out HC.out
  cases one
  all_goals go_enter Tryz.func104, Tryz.ntmps104
  all_goals go_wp2_with fail
  all_goals go_ret2
  all_goals exact ⟨A ||| C, by simp [madeV], fun z h => by have := HZ.out z h; simpa [madeV] using this, HB.out⟩
 ·have hop : bits .xor .u64 (A : Int) (C : Int) = ((A ^^^ C : Nat) : Int) := u64_xor_nat A C HA.out HC.out
  cases one
  all_goals go_enter Tryz.func104, Tryz.ntmps104
  all_goals go_wp2_with fail
  all_goals go_ret2
  all_goals exact ⟨A ^^^ C, by simp [madeV], fun z h => by have := HZ.out z h; simpa [madeV] using this, HB.out⟩
 ·have hsh : k ≤ 63 := by have := HS.out (.inl rfl); omega
  have hop := shl_nat A k
  go_enter Tryz.func104, Tryz.ntmps104
  go_wp2_with fail
  go_ret2
  exact ⟨B.shl64 A k, by simp [madeV], fun z h => by have := HZ.out z h; simpa [madeV] using this, HB.out⟩
 ·have hsh : k ≤ 63 := by have := HS.out (.inr rfl); omega
  go_enter Tryz.func104, Tryz.ntmps104
  go_wp2_with fail
  go_ret2
  exact ⟨A / 2 ^ k, by simp [madeV], fun z h => by have := HZ.out z h; simpa [madeV] using this, HB.out⟩
 ·have hop : bits .and .u64 (A : Int) (m : Int) = ((A &&& m : Nat) : Int) := u64_and_nat A m HA.out HM.out
  go_enter Tryz.func104, Tryz.ntmps104
  go_wp2_with fail
  go_ret2
  exact ⟨A &&& m, by simp [madeV], fun z h => by have := HZ.out z h; simpa [madeV] using this, HB.out⟩
 ·go_enter Tryz.func104, Tryz.ntmps104
  go_wp2_with fail
  go_ret2
  exact ⟨0, by simp [madeV], fun z h => by have := HZ.out z h; simpa [madeV] using this, HB.out⟩
 ·go_enter Tryz.func104, Tryz.ntmps104
  go_wp2_with fail
  go_ret2
  exact ⟨0, by simp [madeV], fun z h => by have := HZ.out z h; simpa [madeV] using this, HB.out⟩
 ·go_enter Tryz.func104, Tryz.ntmps104
  go_wp2_with fail
  go_ret2
  exact ⟨0, by simp [madeV], fun z h => by have := HZ.out z h; simpa [madeV] using this, HB.out⟩
 ·go_enter Tryz.func104, Tryz.ntmps104
  go_wp2_with fail
  go_ret2
  exact ⟨0, by simp [madeV], fun z h => by have := HZ.out z h; simpa [madeV] using this, HB.out⟩
 ·go_enter Tryz.func104, Tryz.ntmps104
  go_wp2_with fail
  go_ret2
  exact ⟨0, by simp [madeV], fun z h => by have := HZ.out z h; simpa [madeV] using this, HB.out⟩
 ·obtain ⟨k1, k2⟩ := HN.out rfl
  have k3 : 1 ≤ k := by omega
  have k4 : k ≤ 64 := by omega
  clear k1 k2
  go_enter Tryz.func104, Tryz.ntmps104
  go_wp2_with (go_at_call 79; refine (extend_still A k true _ k3 k4 HA.out).mono ?_; rintro e w2 ⟨rfl, rfl⟩)
  go_ret2
  exact ⟨B.extend A k true, by simp [madeV], fun z h => by have := HZ.out z h; simpa [madeV] using this, HB.out⟩
 ·go_enter Tryz.func104, Tryz.ntmps104
  go_wp2_with fail
  go_ret2
  exact ⟨0, by simp [madeV], fun z h => by have := HZ.out z h; simpa [madeV] using this, HB.out⟩
 ·go_enter Tryz.func104, Tryz.ntmps104
  go_wp2_with fail
  go_ret2
  exact ⟨0, by simp [madeV], fun z h => by have := HZ.out z h; simpa [madeV] using this, HB.out⟩
 ·go_enter Tryz.func104, Tryz.ntmps104
  go_wp2_with fail
  go_ret2
  exact ⟨0, by simp [madeV], fun z h => by have := HZ.out z h; simpa [madeV] using this, HB.out⟩
 ·go_enter Tryz.func104, Tryz.ntmps104
  go_wp2_with fail
  go_ret2
  exact ⟨0, by simp [madeV], fun z h => by have := HZ.out z h; simpa [madeV] using this, HB.out⟩
 ·go_enter Tryz.func104, Tryz.ntmps104
  go_wp2_with fail
  go_ret2
  exact ⟨0, by simp [madeV], fun z h => by have := HZ.out z h; simpa [madeV] using this, HB.out⟩

end Code
end Go.Proofs.YtegjeincncccaaaGreatDoor
