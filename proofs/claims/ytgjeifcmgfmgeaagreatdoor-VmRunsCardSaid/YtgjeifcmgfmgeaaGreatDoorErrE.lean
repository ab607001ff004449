/- Go's library: errors.As at a place for the program's Fault, whole. -/
import Derived.Test.YtgjeifcmgfmgeaaGreatDoorErrD
namespace Go.Proofs.YtgjeifcmgfmgeaaGreatDoor
open Go.RowKit Go.Extern.Stop Go.Stop Go.Extern

namespace Code

theorem as_nil (t : Value) (w : World) : Calls Tryz.prog 106 #[.nilIface, t] w fun e w' => e = .returned (.bool false) ∧ w' = w := by
 go_enter Tryz.func106, Tryz.ntmps106
 go_wp2
 go_ret
 exact ⟨rfl, rfl⟩

/-- what a Fault's place is after errors.As -/
def AsOut (B : Nat) (v : Value) (w : World) (e : Ending) (w' : World) : Prop :=
 (∀ n, v = errno n → e = .returned (.bool false) ∧ Below w.heap.size w w') ∧ ∀ n l i : Int, v = .iface 146 (.agg #[.int .i64 n, .int .i64 l, .int .i64 i]) → e = .returned (.bool true) ∧ FaultAt w' B n l i ∧ Below B w w'

set_option maxRecDepth 100000 in
set_option maxHeartbeats 4000000 in
theorem as_any (v : Value) (m : Int) (hv : IsErr v m) (B : Nat) (o0 o1 o2 : Value) (w : World) (hB : w.heap[B]? = some (.cells #[o0, o1, o2] 146 (0, 0))) (hg : ErrVar w) :
    Calls Tryz.prog 106 #[v, .iface 149 (.pointer (some ⟨B, 0, none⟩))] w (AsOut B v w) := by
 have h6 := @run_callFunc_extern Tryz.prog 144 _ (fun args => ReflectliteValue.unpack (args.getD 0 (.tuple #[]))) Tryz.func144 (by kernel_rfl) (by kernel_rfl) (by kernel_rfl) (by kernel_rfl)
 have h7 := @run_callFunc_extern Tryz.prog 145 _ (ReflectliteValue.methodAny (ReflectliteValue.valueError "reflectlite.Value.Type" 0) (fun t _ _ _ => ReflectliteType.toType t)) Tryz.func145 (by kernel_rfl) (by kernel_rfl) (by kernel_rfl) (by kernel_rfl)
 have h8 := @run_callFunc_extern Tryz.prog 146 _ (ReflectliteValue.method (ReflectliteValue.valueError "reflectlite.Value.IsNil" 0) ReflectliteValue.isNil) Tryz.func146 (by kernel_rfl) (by kernel_rfl) (by kernel_rfl) (by kernel_rfl)
 have h27 := @run_callFunc_extern Tryz.prog 271 _ (ReflectliteType.abiMethod fun t => do pure (.int .u8 (← Rtype.kind t))) Tryz.func271 (by kernel_rfl) (by kernel_rfl) (by kernel_rfl) (by kernel_rfl)
 have h37 := @run_callFunc_extern Tryz.prog 285 _ (ReflectliteType.method ReflectliteType.elem) Tryz.func285 (by kernel_rfl) (by kernel_rfl) (by kernel_rfl) (by kernel_rfl)
 have h38 := @run_callFunc_extern Tryz.prog 286 _ (ReflectliteType.relation "Implements" ReflectliteType.implements_) Tryz.func286 (by kernel_rfl) (by kernel_rfl) (by kernel_rfl) (by kernel_rfl)
 have f6 := valueOfP
 have f7 := typeP
 have mK := methodKind
 have mE := methodElem
 have mI := methodImplements
 have kP := kindP
 have kF := kindF
 have eP := elemP
 have iF := implementsF
 have hBl := lt_of_block hB
 unfold ErrVar at hg
 have hgl := World.block_lt_of_cell? w _ hg
 simp only at hgl
 have n8 := isNilP ⟨w.heap.size, 0, none⟩ ⟨B, 0, none⟩ ((w.alloc (.cells #[.pointer (some ⟨B, 0, none⟩)] 149)).alloc (.cells #[.pointer (some ⟨9, 149, none⟩), .pointer (some ⟨w.heap.size, 0, none⟩), .int .u64 150] 234)) (by simp)
 have hB2 := blk_alloc (o := .cells #[.pointer (some ⟨9, 149, none⟩), .pointer (some ⟨w.heap.size, 0, none⟩), .int .u64 150] 234) (blk_alloc (o := .cells #[.pointer (some ⟨B, 0, none⟩)] 149) hB)
 have htb : ((w.alloc (.cells #[.pointer (some ⟨B, 0, none⟩)] 149)).alloc (.cells #[.pointer (some ⟨9, 149, none⟩), .pointer (some ⟨w.heap.size, 0, none⟩), .int .u64 150] 234)).cell? ⟨w.heap.size, 0, none⟩ = some (.pointer (some ⟨B, 0, none⟩)) := by simp
 have HB := Lib.hid hBl
 have HB2 := Lib.hid hB2
 have HTB := Lib.hid htb
 clear hB hB2 htb hBl
 cases hv with
 | errno n =>
  unfold errno
  go_enter Tryz.func106, Tryz.ntmps106
  go_wp2_with (go_at_call 147; refine (as_errno _ _ _ _).mono ?_; rintro e w1 ⟨rfl, hb1⟩)
  go_ret
  refine ⟨fun n' _ => ⟨rfl, ?_⟩, fun n' l i h => by cases h⟩
  exact (((Below.refl _ _).alloc (Nat.le_refl _) _).alloc (by simp) _).trans (hb1.mono (by simp; omega))
 | fault n l i =>
  go_enter Tryz.func106, Tryz.ntmps106
  go_wp2_with (go_at_call 147; refine (as_fault _ _ _ _ _ _ _ _ _ HB2.out HTB.out).mono ?_; rintro e w1 ⟨rfl, hf1, hb1⟩)
  go_ret
  refine ⟨fun n' h => by simp [errno] at h, fun n' l' i' h => ?_⟩
  cases h
  exact ⟨rfl, hf1, (((Below.refl B w).alloc (Nat.le_of_lt HB.out) _).alloc (by have := HB.out; simp; omega) _).trans hb1⟩

end Code
end Go.Proofs.YtgjeifcmgfmgeaaGreatDoor
