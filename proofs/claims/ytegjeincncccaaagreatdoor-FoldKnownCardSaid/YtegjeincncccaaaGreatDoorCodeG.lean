/- Package code, plain: which fields an operation has; an instruction is right just if its fields are and it is read back as it is. -/
import Derived.Test.YtegjeincncccaaaGreatDoorCodeE
namespace Go.Proofs.YtegjeincncccaaaGreatDoor
open Go.RowKit

namespace Code

/-- the fields of an operation -/
def fieldsOf (o : Int) : List FK :=
 if o = 0 then [] else if o = 1 ∨ o = 8 then [reg, .number] else if 2 ≤ o ∧ o ≤ 5 then [reg, other] else if o = 6 ∨ o = 7 then [reg, .small 2 0 63]
 else if 9 ≤ o ∧ o ≤ 12 then [reg, .small 1 0 7, .bytes] else if o = 13 then [reg, .small 1 0 7, .bytes, .number] else if o = 14 then [reg, .small 2 1 64]
 else if o = 15 ∨ o = 16 then [reg, slot] else if o = 17 then [reg, slot, .small 2 1 64, .sign] else if o = 18 then [.skip] else [reg, .skip, .number]

/-- is a field right? -/
def okB (fk : FK) (x : B.Ins) : Bool :=
 match fk with
 | .small k lo hi => inB lo (get k x) hi
 | .number => true
 | .sign => decide (x.imm ≤ 1)
 | .skip => inB 0 x.n 16384
 | .bytes => bytesOk x

def encs (fks : List FK) (x : B.Ins) : List Nat := fks.flatMap (fun fk => enc fk x)
def gots (fks : List FK) (y x : B.Ins) : B.Ins := fks.foldl (fun x fk => got fk x y) x

theorem byteOf_eq {v : Int} (h0 : 0 ≤ v) (h1 : v ≤ 255) : ((byteOf v : Nat) : Int) = v := by unfold byteOf; omega

theorem ops_cases {o : Int} (h : B.isOp o = true) : o = 0 ∨ o = 1 ∨ o = 2 ∨ o = 3 ∨ o = 4 ∨ o = 5 ∨ o = 6 ∨ o = 7 ∨ o = 8 ∨ o = 9 ∨ o = 10 ∨ o = 11 ∨ o = 12 ∨ o = 13 ∨ o = 14 ∨ o = 15 ∨ o = 16 ∨ o = 17 ∨ o = 18 ∨ o = 19 := by
 unfold B.isOp at h
 simp at h
 omega

theorem right_law (x : B.Ins) (hw : x.Wf) (h : B.isOp x.op = true) : x.right = ((fieldsOf x.op).all (fun fk => okB fk x) && decide (gots (fieldsOf x.op) x ⟨x.op, 0, 0, 0, 0⟩ = x)) := by
 obtain ⟨o, a, b, n, m⟩ := x
 have hm := hw.imm
 unfold B.InU64 at hm
 simp only at hm h ⊢
 clear hw
 rcases ops_cases h with rfl | rfl | rfl | rfl | rfl | rfl | rfl | rfl | rfl | rfl | rfl | rfl | rfl | rfl | rfl | rfl | rfl | rfl | rfl | rfl
 all_goals
  rw [Bool.eq_iff_iff]
  simp [fieldsOf, B.Ins.right, B.isOp, B.hasA, B.hiB, B.loN, B.hiN, B.hiImm, reg, other, slot, okB, inB, get, bytesOk, gots, got, B.Ins.set, byteOf]
  try omega

end Code
end Go.Proofs.YtegjeincncccaaaGreatDoor
