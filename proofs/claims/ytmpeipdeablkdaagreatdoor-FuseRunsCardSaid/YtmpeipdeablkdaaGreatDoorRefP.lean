/- The document's own way to tell a right instruction, letter by letter: it tells what B.Ins.right tells. No program in sight. -/
import Derived.Test.YtmpeipdeablkdaaGreatDoorPlain3
namespace Go.Proofs.YtmpeipdeablkdaaGreatDoor.B

def fieldsL : List (List Nat) := [[], [97, 105], [97, 98], [97, 98], [97, 98], [97, 98], [97, 104], [97, 104], [97, 105], [97, 107, 110], [97, 107, 110], [97, 107, 110], [97, 107, 110], [97, 107, 110, 105], [97, 119], [97, 115], [97, 115], [97, 115, 119, 103], [106], [97, 106, 105]]

/-- an operation's letters -/
def letters (op : Int) : List Nat := if 0 ≤ op ∧ op < 20 then fieldsL.getD op.toNat [] else [63]

/-- a letter more: what the instruction should be, and whether it is in its bounds -/
def letter (x : Ins) (s : Ins × Bool) (c : Nat) : Ins × Bool :=
 if c = 97 then ({ s.1 with a := x.a }, s.2 && decide (0 ≤ x.a ∧ x.a ≤ 15))
 else if c = 98 then ({ s.1 with b := x.b }, s.2 && decide (0 ≤ x.b ∧ x.b ≤ 15))
 else if c = 107 then ({ s.1 with b := x.b }, s.2 && decide (0 ≤ x.b ∧ x.b ≤ 7))
 else if c = 110 then ({ s.1 with n := x.n }, s.2 && decide (1 ≤ x.n ∧ x.n ≤ 8) && decide (x.b + x.n ≤ 8))
 else if c = 115 then ({ s.1 with b := x.b }, s.2 && decide (0 ≤ x.b ∧ x.b ≤ 63))
 else if c = 104 then ({ s.1 with n := x.n }, s.2 && decide (0 ≤ x.n ∧ x.n ≤ 63))
 else if c = 119 then ({ s.1 with n := x.n }, s.2 && decide (1 ≤ x.n ∧ x.n ≤ 64))
 else if c = 106 then ({ s.1 with n := x.n }, s.2 && decide (0 ≤ x.n ∧ x.n ≤ 16384))
 else if c = 105 then ({ s.1 with imm := x.imm }, s.2)
 else if c = 103 then ({ s.1 with imm := x.imm }, s.2 && decide (x.imm ≤ 1))
 else s

def refSt (x : Ins) (l : List Nat) : Ins × Bool := l.foldl (letter x) (⟨x.op, 0, 0, 0, 0⟩, decide (letters x.op ≠ [63]))
def refRight (x : Ins) : Bool := (refSt x (letters x.op)).2 && decide (x = (refSt x (letters x.op)).1)

theorem refSt_snoc (x : Ins) (l : List Nat) (c : Nat) : refSt x (l ++ [c]) = letter x (refSt x l) c := by
 unfold refSt; rw [List.foldl_append]; rfl

theorem ins_eq {o a b n m o' a' b' n' m' : Int} : (⟨o, a, b, n, m⟩ : Ins) = ⟨o', a', b', n', m'⟩ ↔ o = o' ∧ a = a' ∧ b = b' ∧ n = n' ∧ m = m' := by simp

set_option maxHeartbeats 1600000 in
theorem refRight_eq (x : Ins) (h : x.Wf) : refRight x = x.right := by
 have hi := h.imm
 unfold InU64 at hi
 obtain ⟨o, a, b, n, m⟩ := x
 simp only at hi
 by_cases ho : 0 ≤ o ∧ o < 20
 ·have hc : o = 0 ∨ o = 1 ∨ o = 2 ∨ o = 3 ∨ o = 4 ∨ o = 5 ∨ o = 6 ∨ o = 7 ∨ o = 8 ∨ o = 9 ∨ o = 10 ∨ o = 11 ∨ o = 12 ∨ o = 13 ∨ o = 14 ∨ o = 15 ∨ o = 16 ∨ o = 17 ∨ o = 18 ∨ o = 19 := by omega
  clear h ho
  rw [Bool.eq_iff_iff]
  rcases hc with rfl | rfl | rfl | rfl | rfl | rfl | rfl | rfl | rfl | rfl | rfl | rfl | rfl | rfl | rfl | rfl | rfl | rfl | rfl | rfl
  all_goals simp [refRight, refSt, letters, fieldsL, letter, Ins.right, isOp, hasA, hiB, loN, hiN, hiImm]
  all_goals omega
 ·have e1 : letters o = [63] := by unfold letters; rw [if_neg ho]
  have e2 : (⟨o, a, b, n, m⟩ : Ins).right = false := by
   simp only [Ins.right, isOp, Bool.and_eq_false_iff, decide_eq_false_iff_not]
   left; left; left; left; left
   omega
  rw [e2]
  simp [refRight, refSt, e1, letter]

end Go.Proofs.YtmpeipdeablkdaaGreatDoor.B
