/- Plain Lean: what fold comes to: registers that are known, instruction by instruction. -/
import Derived.Test.YtegjeincncccaaaGreatDoorPlain2
namespace Go.Proofs.YtegjeincncccaaaGreatDoor.B

/-- registers and what they are known to be -/
abbrev Kn := Int → Option Nat

def both (f : Nat → Nat → Nat) (a b : Option Nat) : Option Nat := match a, b with
 | some a, some b => some (f a b)
 | _, _ => none

/-- what an operation makes of registers that are known -/
def Ins.made (x : Ins) (k : Kn) : Option Nat :=
 if x.op = 2 then k x.b
 else if x.op = 3 then both (· &&& ·) (k x.a) (k x.b)
 else if x.op = 4 then both (· ||| ·) (k x.a) (k x.b)
 else if x.op = 5 then both (· ^^^ ·) (k x.a) (k x.b)
 else if x.op = 6 then (k x.a).map (shl64 · x.n.toNat)
 else if x.op = 7 then (k x.a).map (· / 2 ^ x.n.toNat)
 else if x.op = 8 then (k x.a).map (· &&& x.imm.toNat)
 else if x.op = 14 then (k x.a).map (extend · x.n.toNat true)
 else none

/-- what takes an instruction's place -/
def Ins.better (x : Ins) (k : Kn) : Ins := match x.made k with
 | some v => ⟨1, x.a, 0, 0, (v : Int)⟩
 | none => match k x.a with
  | some v => if x.op = 19 ∧ (v : Int) ≠ x.imm then ⟨18, 0, 0, x.n, 0⟩
   else if x.op = 19 ∨ (x.op = 17 ∧ fits v x.n.toNat (decide (x.imm = 1)) = true) then ⟨18, 0, 0, 0, 0⟩ else x
  | none => x

/-- what is known behind an instruction -/
def Ins.afterK (x : Ins) (k : Kn) : Kn := fun r => if x.isW = true ∧ x.a = r then (if x.op = 1 then some x.imm.toNat else none) else k r

/-- what both know -/
def meetK (a : Option Kn) (b : Kn) : Kn := match a with
 | none => b
 | some a => fun r => if a r = b r then a r else none

structure Fs where
 q : List Ins
 known : Nat → Option Kn

def updK (f : Nat → Option Kn) (j : Nat) (k : Kn) : Nat → Option Kn := fun m => if m = j then some k else f m

def foldStep (i : Nat) (s : Fs) : Fs := match s.q[i]?, s.known i with
 | some x, some k =>
  let y := x.better k
  let k' := y.afterK k
  let a1 := if y.next = true then updK s.known (i + 1) (meetK (s.known (i + 1)) k') else s.known
  let a2 := if y.skips = true then updK a1 (i + 1 + y.n.toNat) (meetK (a1 (i + 1 + y.n.toNat)) k') else a1
  ⟨s.q.set i y, a2⟩
 | _, _ => s

/-- as far as the first i instructions go -/
def foldN (p : List Ins) : Nat → Fs
 | 0 => ⟨p, fun j => if j = 0 then some (fun _ => none) else none⟩
 | i + 1 => foldStep i (foldN p i)

def fold (p : List Ins) : List Ins := (foldN p p.length).q

theorem foldStep_len (i : Nat) (s : Fs) : (foldStep i s).q.length = s.q.length := by
 unfold foldStep
 split <;> simp
theorem foldN_len (p : List Ins) : ∀ i, (foldN p i).q.length = p.length
 | 0 => rfl
 | i + 1 => (foldStep_len i _).trans (foldN_len p i)

/-- the document's examples -/
theorem fold_ex1 : fold [⟨1, 0, 0, 0, 1⟩, ⟨19, 0, 0, 1, 1⟩, ⟨1, 0, 0, 0, 2⟩, ⟨16, 0, 0, 0, 0⟩] = [⟨1, 0, 0, 0, 1⟩, ⟨18, 0, 0, 0, 0⟩, ⟨1, 0, 0, 0, 2⟩, ⟨16, 0, 0, 0, 0⟩] := by decide +kernel
theorem fold_ex2 : fold [⟨1, 0, 0, 0, 1⟩, ⟨19, 0, 0, 1, 7⟩, ⟨1, 0, 0, 0, 2⟩, ⟨16, 0, 0, 0, 0⟩] = [⟨1, 0, 0, 0, 1⟩, ⟨18, 0, 0, 1, 0⟩, ⟨1, 0, 0, 0, 2⟩, ⟨16, 0, 0, 0, 0⟩] := by decide +kernel

end Go.Proofs.YtegjeincncccaaaGreatDoor.B
