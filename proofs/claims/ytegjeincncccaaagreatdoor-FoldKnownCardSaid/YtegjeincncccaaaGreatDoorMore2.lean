/- Instructions in blocks of their own; what numbers a program's error has. -/
import Derived.Test.YtegjeincncccaaaGreatDoorMore
namespace Go.Proofs.YtegjeincncccaaaGreatDoor
open Go.RowKit

theorem one_at (x : B.Ins) (w : World) : ProgAt (w.alloc (.cells #[.int .i64 x.op, .int .i64 x.a, .int .i64 x.b, .int .i64 x.n, .int .u64 x.imm] 24)) (some ⟨w.heap.size, 0, none⟩) 1 [x] :=
 Code.progAt_new [x] _ 1 24 w rfl rfl

theorem two_at (x : B.Ins) (w : World) : ProgAt ((w.alloc (.cells #[.int .i64 x.op, .int .i64 x.a, .int .i64 x.b, .int .i64 x.n, .int .u64 x.imm] 24)).alloc (.cells #[.int .i64 x.op, .int .i64 x.a, .int .i64 x.b, .int .i64 x.n, .int .u64 x.imm] 24)) (some ⟨w.heap.size + 1, 0, none⟩) 1 [x] := by
 have h := one_at x (w.alloc (.cells #[.int .i64 x.op, .int .i64 x.a, .int .i64 x.b, .int .i64 x.n, .int .u64 x.imm] 24))
 rw [show (w.alloc (.cells #[.int .i64 x.op, .int .i64 x.a, .int .i64 x.b, .int .i64 x.n, .int .u64 x.imm] 24)).heap.size = w.heap.size + 1 by simp] at h
 exact h

namespace Code

theorem progEr_num (ps : List B.Ins) (size slots : Int) : ((progEr ps size slots).num : Int) = (B.program ps size slots).1 := by
 have h := program_range ps size slots
 unfold progEr erOf
 generalize B.program ps size slots = r at h ⊢
 obtain ⟨n, o⟩ := r
 simp only at h ⊢
 by_cases h0 : n = 0
 ·rw [if_pos h0, h0]; rfl
 ·rw [if_neg h0]
  cases o with
  | none => simp only [Er.num]; omega
  | some i => simp only [Er.num]; omega

end Code
end Go.Proofs.YtegjeincncccaaaGreatDoor
