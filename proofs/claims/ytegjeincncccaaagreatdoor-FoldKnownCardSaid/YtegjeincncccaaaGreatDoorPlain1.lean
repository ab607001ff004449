/- Plain Lean, no program in sight: instructions, which are right, what they read, write and touch; ways through a program; which registers may be unwritten. -/
import Init
namespace Go.Proofs.YtegjeincncccaaaGreatDoor.B

structure Ins where
 op : Int
 a : Int
 b : Int
 n : Int
 imm : Int

instance : Inhabited Ins := ⟨⟨0, 0, 0, 0, 0⟩⟩
instance : DecidableEq Ins := fun x y =>
 decidable_of_iff (x.op = y.op ∧ x.a = y.a ∧ x.b = y.b ∧ x.n = y.n ∧ x.imm = y.imm) (by
  cases x; cases y; simp)

/-- in range of Go's int -/
def In64 (n : Int) : Prop := -9223372036854775808 ≤ n ∧ n ≤ 9223372036854775807
def InU64 (n : Int) : Prop := 0 ≤ n ∧ n ≤ 18446744073709551615

structure Ins.Wf (x : Ins) : Prop where
 op : In64 x.op
 a : In64 x.a
 b : In64 x.b
 n : In64 x.n
 imm : InU64 x.imm

/-- which fields an operation has, with their ranges: A, B, N, Imm (lowest, highest) -/
def isOp (o : Int) : Bool := decide (0 ≤ o ∧ o ≤ 19)
def hasA (o : Int) : Bool := decide (1 ≤ o ∧ o ≤ 17) || decide (o = 19)
def hiB (o : Int) : Int :=
 if 2 ≤ o ∧ o ≤ 5 then 15 else if 9 ≤ o ∧ o ≤ 13 then 7 else if 15 ≤ o ∧ o ≤ 17 then 63 else 0
def loN (o : Int) : Int := if (9 ≤ o ∧ o ≤ 14) ∨ o = 17 then 1 else 0
def hiN (o : Int) : Int :=
 if 6 ≤ o ∧ o ≤ 7 then 63 else if 9 ≤ o ∧ o ≤ 13 then 8 else if o = 14 ∨ o = 17 then 64 else if 18 ≤ o ∧ o ≤ 19 then 16384 else 0
def hiImm (o : Int) : Int :=
 if o = 1 ∨ o = 8 ∨ o = 13 ∨ o = 19 then 18446744073709551615 else if o = 17 then 1 else 0

/-- P12: an instruction is right -/
def Ins.right (x : Ins) : Bool :=
 isOp x.op && decide (0 ≤ x.a ∧ x.a ≤ if hasA x.op then 15 else 0) && decide (0 ≤ x.b ∧ x.b ≤ hiB x.op) &&
  decide (loN x.op ≤ x.n ∧ x.n ≤ hiN x.op) && decide (0 ≤ x.imm ∧ x.imm ≤ hiImm x.op) &&
  (!decide (9 ≤ x.op ∧ x.op ≤ 13) || decide (x.b + x.n ≤ 8))

def Ins.reads (x : Ins) (r : Nat) : Bool :=
 if x.op = 2 then x.b == r
 else if 3 ≤ x.op ∧ x.op ≤ 5 then x.a == r || x.b == r
 else if (6 ≤ x.op ∧ x.op ≤ 8) ∨ (11 ≤ x.op ∧ x.op ≤ 14) ∨ x.op = 16 ∨ x.op = 17 ∨ x.op = 19 then x.a == r
 else false

def Ins.isW (x : Ins) : Bool := decide (1 ≤ x.op ∧ x.op ≤ 10) || decide (x.op = 14) || decide (x.op = 15)
def Ins.writes (x : Ins) (r : Nat) : Bool := x.isW && x.a == r

/-- what is wrong with what an instruction touches: 0, 16, 18 -/
def Ins.touch (x : Ins) (size slots left : Int) : Int :=
 if 9 ≤ x.op ∧ x.op ≤ 13 then (if x.b + x.n > size then 16 else 0)
 else if 15 ≤ x.op ∧ x.op ≤ 17 then (if x.b ≥ slots then 18 else 0)
 else if 18 ≤ x.op ∧ x.op ≤ 19 then (if x.n > left then 16 else 0)
 else 0

/-- the first instruction that isn't right or touches what there isn't -/
def firstTouch (size slots : Int) (len : Nat) : Nat → List Ins → Option (Int × Nat)
 | _, [] => none
 | i, x :: r =>
  if x.right = false then some (20, i)
  else if x.touch size slots (len - i - 1) ≠ 0 then some (x.touch size slots (len - i - 1), i)
  else firstTouch size slots len (i + 1) r

def Ins.next (x : Ins) : Bool := !decide (x.op = 0) && !decide (x.op = 18)
def Ins.skips (x : Ins) : Bool := decide (x.op = 18) || decide (x.op = 19)

/-- goes on from i to j in one step -/
def Ins.goes (x : Ins) (i j : Nat) : Prop := (x.next = true ∧ j = i + 1) ∨ (x.skips = true ∧ j = i + 1 + x.n.toNat)

/-- a way comes to a place -/
inductive Reach (p : List Ins) : Nat → Prop where
 | start : Reach p 0
 | step {i j : Nat} {x : Ins} : Reach p i → p[i]? = some x → x.goes i j → Reach p j

/-- a way comes to a place on which nothing writes r -/
inductive May (p : List Ins) (r : Nat) : Nat → Prop where
 | start : May p r 0
 | step {i j : Nat} {x : Ins} : May p r i → p[i]? = some x → x.writes r = false → x.goes i j → May p r j

theorem May.reach {p : List Ins} {r i : Nat} (h : May p r i) : Reach p i := by
 induction h with
 | start => exact .start
 | step _ hx _ hg ih => exact .step ih hx hg

end Go.Proofs.YtegjeincncccaaaGreatDoor.B
namespace Go.Proofs.YtegjeincncccaaaGreatDoor.B

def come (st : Nat → Option Nat) (j w : Nat) : Nat → Option Nat := fun k =>
 if k = j then some (match st j with | none => w | some v => v &&& w) else st k

def Ins.after (x : Ins) (w : Nat) : Nat := if x.isW then w ||| 2 ^ x.a.toNat else w

def stNext (x : Ins) (i w : Nat) (st : Nat → Option Nat) : Nat → Option Nat :=
 let w' := x.after w
 let s1 := if x.next then come st (i + 1) w' else st
 if x.skips then come s1 (i + 1 + x.n.toNat) w' else s1

/-- what is known behind the first i instructions -/
def stAt (p : List Ins) : Nat → Nat → Option Nat
 | 0 => fun k => if k = 0 then some 0 else none
 | i + 1 => match p[i]?, stAt p i i with
  | some x, some w => stNext x i w (stAt p i)
  | _, _ => stAt p i

def Ins.mask (x : Ins) : Nat :=
 if x.op = 2 then 2 ^ x.b.toNat
 else if 3 ≤ x.op ∧ x.op ≤ 5 then 2 ^ x.a.toNat ||| 2 ^ x.b.toNat
 else if (6 ≤ x.op ∧ x.op ≤ 8) ∨ (11 ≤ x.op ∧ x.op ≤ 14) ∨ x.op = 16 ∨ x.op = 17 ∨ x.op = 19 then 2 ^ x.a.toNat
 else 0

def ReachBy (p : List Ins) (i j : Nat) : Prop := j = 0 ∨ ∃ k x, k < i ∧ p[k]? = some x ∧ Reach p k ∧ x.goes k j
def MayBy (p : List Ins) (r i j : Nat) : Prop := j = 0 ∨ ∃ k x, k < i ∧ p[k]? = some x ∧ May p r k ∧ x.writes r = false ∧ x.goes k j

theorem Ins.goes_lt {x : Ins} {i j : Nat} (h : x.goes i j) : i < j := by
 rcases h with ⟨_, rfl⟩ | ⟨_, rfl⟩ <;> omega

theorem reachBy_reach {p : List Ins} {i j : Nat} (hj : j ≤ i) : ReachBy p i j ↔ Reach p j := by
 constructor
 ·rintro (rfl | ⟨k, x, _, hx, hr, hg⟩)
  ·exact .start
  ·exact .step hr hx hg
 ·intro h
  cases h with
  | start => exact .inl rfl
  | step hr hx hg => exact .inr ⟨_, _, by have := Ins.goes_lt hg; omega, hx, hr, hg⟩

theorem mayBy_may {p : List Ins} {r i j : Nat} (hj : j ≤ i) : MayBy p r i j ↔ May p r j := by
 constructor
 ·rintro (rfl | ⟨k, x, _, hx, hr, hw, hg⟩)
  ·exact .start
  ·exact .step hr hx hw hg
 ·intro h
  cases h with
  | start => exact .inl rfl
  | step hr hx hw hg => exact .inr ⟨_, _, by have := Ins.goes_lt hg; omega, hx, hr, hw, hg⟩

theorem come_isSome (st : Nat → Option Nat) (j w k : Nat) : (come st j w k).isSome = (decide (k = j) || (st k).isSome) := by
 unfold come; by_cases h : k = j <;> simp [h]

/-- one way more: what a place knows behind it -/
theorem come_some {st : Nat → Option Nat} {j w k v : Nat} (h : come st j w k = some v) (r : Nat) :
    v.testBit r = false ↔ ((k = j ∧ w.testBit r = false) ∨ ∃ u, st k = some u ∧ u.testBit r = false) := by
 unfold come at h
 by_cases hk : k = j
 ·subst hk
  rw [if_pos rfl] at h
  cases hs : st k with
  | none => rw [hs] at h; simp at h; subst h; simp
  | some u =>
   rw [hs] at h; simp at h; subst h
   simp [Nat.testBit_and]
   cases w.testBit r <;> cases u.testBit r <;> simp
 ·rw [if_neg hk] at h
  constructor
  ·intro hv; exact .inr ⟨v, h, hv⟩
  ·rintro (⟨h', _⟩ | ⟨u, hu, hur⟩)
   ·exact absurd h' hk
   ·rw [h] at hu; cases hu; exact hur

theorem after_testBit {x : Ins} {w r : Nat} (ha : 0 ≤ x.a) : (x.after w).testBit r = (w.testBit r || x.writes r) := by
 unfold Ins.after Ins.writes
 cases x.isW with
 | false => simp
 | true =>
  simp only [if_true, Nat.testBit_or, Bool.true_and, Nat.testBit_two_pow]
  congr 1
  rw [Bool.eq_iff_iff]; simp; omega

theorem stNext_isSome (x : Ins) (i w : Nat) (st : Nat → Option Nat) (k : Nat) :
    (stNext x i w st k).isSome = true ↔ ((st k).isSome = true ∨ x.goes i k) := by
 unfold stNext Ins.goes
 cases x.next <;> cases x.skips <;> simp [come_isSome] <;> grind

theorem stNext_some {x : Ins} {i w : Nat} {st : Nat → Option Nat} {k v : Nat} (h : stNext x i w st k = some v) (r : Nat) :
    v.testBit r = false ↔ ((x.goes i k ∧ (x.after w).testBit r = false) ∨ ∃ u, st k = some u ∧ u.testBit r = false) := by
 unfold stNext at h
 unfold Ins.goes
 cases hn : x.next <;> cases hs : x.skips <;> simp only [hn, hs, if_true, if_false, Bool.false_eq_true] at h ⊢
 ·constructor
  ·intro hv; exact .inr ⟨v, h, hv⟩
  ·rintro (⟨h', _⟩ | ⟨u, hu, hur⟩)
   ·simp at h'
   ·rw [h] at hu; cases hu; exact hur
 ·rw [come_some h r]; simp
 ·rw [come_some h r]; simp
 ·rw [come_some h r]
  constructor
  ·rintro (⟨h1, h2⟩ | ⟨u, hu, hur⟩)
   ·exact .inl ⟨.inr ⟨trivial, h1⟩, h2⟩
   ·rcases (come_some hu r).1 hur with ⟨h1, h2⟩ | h2
    ·exact .inl ⟨.inl ⟨trivial, h1⟩, h2⟩
    ·exact .inr h2
  ·rintro (⟨⟨_, h1⟩ | ⟨_, h1⟩, h2⟩ | ⟨u, hu, hur⟩)
   ·right
    cases hc : come st (i + 1) (x.after w) k with
    | none => simp [come, h1] at hc
    | some u => exact ⟨u, rfl, (come_some hc r).2 (.inl ⟨h1, h2⟩)⟩
   ·exact .inl ⟨h1, h2⟩
   ·right
    cases hc : come st (i + 1) (x.after w) k with
    | none =>
     unfold come at hc
     by_cases hk : k = i + 1
     ·simp [hk] at hc
     ·rw [if_neg hk, hu] at hc; simp at hc
    | some u' => exact ⟨u', rfl, (come_some hc r).2 (.inr ⟨u, hu, hur⟩)⟩

theorem stAt_reach (p : List Ins) : ∀ i j, (stAt p i j).isSome = true ↔ ReachBy p i j := by
 intro i
 induction i with
 | zero =>
  intro j
  unfold stAt ReachBy
  by_cases hj : j = 0 <;> simp [hj]
 | succ i ih =>
  intro j
  have hsucc : ReachBy p (i + 1) j ↔ (ReachBy p i j ∨ ∃ x, p[i]? = some x ∧ Reach p i ∧ x.goes i j) := by
   unfold ReachBy
   constructor
   ·rintro (h | ⟨k, x, hk, hx, hr, hg⟩)
    ·exact .inl (.inl h)
    ·by_cases hki : k = i
     ·subst hki; exact .inr ⟨x, hx, hr, hg⟩
     ·exact .inl (.inr ⟨k, x, by omega, hx, hr, hg⟩)
   ·rintro ((h | ⟨k, x, hk, hx, hr, hg⟩) | ⟨x, hx, hr, hg⟩)
    ·exact .inl h
    ·exact .inr ⟨k, x, by omega, hx, hr, hg⟩
    ·exact .inr ⟨i, x, by omega, hx, hr, hg⟩
  rw [hsucc]
  have hii := (ih i).trans (reachBy_reach (p := p) (Nat.le_refl i))
  show ((match p[i]?, stAt p i i with | some x, some w => stNext x i w (stAt p i) | _, _ => stAt p i) j).isSome = true ↔ _
  cases hp : p[i]? with
  | none => simp [ih j]
  | some x =>
   cases hst : stAt p i i with
   | none =>
    rw [hst] at hii
    have hno : ¬ Reach p i := fun h => by have := hii.2 h; simp at this
    simp [ih j, hno]
   | some w =>
    rw [hst] at hii
    have hyes : Reach p i := hii.1 rfl
    simp only [stNext_isSome, ih j]
    constructor
    ·rintro (h | h)
     ·exact .inl h
     ·exact .inr ⟨x, rfl, hyes, h⟩
    ·rintro (h | ⟨y, hy, _, h⟩)
     ·exact .inl h
     ·cases hy; exact .inr h

theorem stAt_may (p : List Ins) (hreg : ∀ x ∈ p, 0 ≤ x.a) : ∀ i j w, stAt p i j = some w → ∀ r, w.testBit r = false ↔ MayBy p r i j := by
 intro i
 induction i with
 | zero =>
  intro j w h r
  unfold stAt at h
  by_cases hj : j = 0
  ·subst hj
   simp at h; subst h
   simp [MayBy]
  ·simp [hj] at h
 | succ i ih =>
  intro j w h r
  have hsucc : MayBy p r (i + 1) j ↔ (MayBy p r i j ∨ ∃ x, p[i]? = some x ∧ May p r i ∧ x.writes r = false ∧ x.goes i j) := by
   unfold MayBy
   constructor
   ·rintro (h | ⟨k, x, hk, hx, hr, hg⟩)
    ·exact .inl (.inl h)
    ·by_cases hki : k = i
     ·subst hki; exact .inr ⟨x, hx, hr, hg⟩
     ·exact .inl (.inr ⟨k, x, by omega, hx, hr, hg⟩)
   ·rintro ((h | ⟨k, x, hk, hx, hr, hg⟩) | ⟨x, hx, hr, hg⟩)
    ·exact .inl h
    ·exact .inr ⟨k, x, by omega, hx, hr, hg⟩
    ·exact .inr ⟨i, x, by omega, hx, hr, hg⟩
  rw [hsucc]
  -- a place that is not known yet has no way on which nothing writes r
  have hnone : ∀ j, stAt p i j = none → ¬ MayBy p r i j := by
   intro j hj hm
   have : ReachBy p i j := by
    rcases hm with h | ⟨k, x, hk, hx, hr, _, hg⟩
    ·exact .inl h
    ·exact .inr ⟨k, x, hk, hx, hr.reach, hg⟩
   have := (stAt_reach p i j).2 this
   rw [hj] at this; simp at this
  change (match p[i]?, stAt p i i with | some x, some w => stNext x i w (stAt p i) | _, _ => stAt p i) j = some w at h
  cases hp : p[i]? with
  | none => rw [hp] at h; simp only at h; rw [ih j w h r]; simp
  | some x =>
   have hxa : 0 ≤ x.a := hreg x (List.mem_of_getElem? hp)
   rw [hp] at h
   cases hst : stAt p i i with
   | none =>
    rw [hst] at h
    simp only at h
    have hno : ¬ May p r i := fun hm => hnone i hst ((mayBy_may (Nat.le_refl i)).2 hm)
    rw [ih j w h r]; simp [hno]
   | some u =>
    rw [hst] at h
    simp only at h
    rw [stNext_some h r, after_testBit hxa]
    have hu := (ih i u hst r).trans (mayBy_may (Nat.le_refl i))
    constructor
    ·rintro (⟨hg, hb⟩ | ⟨v, hv, hvr⟩)
     ·rw [Bool.or_eq_false_iff] at hb
      exact .inr ⟨x, rfl, hu.1 hb.1, hb.2, hg⟩
     ·exact .inl ((ih j v hv r).1 hvr)
    ·rintro (hm | ⟨y, hy, hm, hw, hg⟩)
     ·cases hj : stAt p i j with
      | none => exact absurd hm (hnone j hj)
      | some v => exact .inr ⟨v, rfl, (ih j v hj r).2 hm⟩
     ·cases hy
      exact .inl ⟨hg, by rw [Bool.or_eq_false_iff]; exact ⟨hu.2 hm, hw⟩⟩

theorem mask_testBit {x : Ins} (ha : 0 ≤ x.a) (hb : 0 ≤ x.b) (r : Nat) : x.mask.testBit r = x.reads r := by
 have e : ∀ z : Int, 0 ≤ z → (2 ^ z.toNat).testBit r = (z == (r : Int)) := by
  intro z hz
  rw [Nat.testBit_two_pow, Bool.eq_iff_iff]; simp; omega
 unfold Ins.mask Ins.reads
 split
 ·exact e _ hb
 ·split
  ·rw [Nat.testBit_or, e _ ha, e _ hb]
  ·split
   ·exact e _ ha
   ·simp

theorem and_eq_left_iff (m w : Nat) : m &&& w = m ↔ ∀ r, m.testBit r = true → w.testBit r = true := by
 constructor
 ·intro h r hr
  have := congrArg (fun z => z.testBit r) h
  simp [Nat.testBit_and, hr] at this
  exact this
 ·intro h
  apply Nat.eq_of_testBit_eq
  intro r
  rw [Nat.testBit_and]
  cases hm : m.testBit r with
  | false => simp
  | true => simp [h r hm]

/-- reads a register that may be unwritten there -/
def badAt (p : List Ins) (i : Nat) : Bool :=
 match p[i]?, stAt p i i with
 | some x, some w => !decide (x.mask &&& w = x.mask)
 | _, _ => false

theorem badAt_iff {p : List Ins} (hreg : ∀ x ∈ p, 0 ≤ x.a ∧ 0 ≤ x.b) {i : Nat} {x : Ins} (hx : p[i]? = some x) :
    badAt p i = true ↔ ∃ r, x.reads r = true ∧ May p r i := by
 have hr := hreg x (List.mem_of_getElem? hx)
 unfold badAt
 rw [hx]
 cases hst : stAt p i i with
 | none =>
  simp only [Bool.false_eq_true, false_iff]
  rintro ⟨r, _, hm⟩
  have := (stAt_reach p i i).2 ((reachBy_reach (Nat.le_refl i)).2 hm.reach)
  rw [hst] at this; simp at this
 | some w =>
  have h := fun r => (stAt_may p (fun x hx => (hreg x hx).1) i i w hst r).trans (mayBy_may (Nat.le_refl i))
  simp only [Bool.not_eq_true', decide_eq_false_iff_not, and_eq_left_iff, mask_testBit hr.1 hr.2, Classical.not_forall, Bool.not_eq_true, h, exists_prop]

/-- the first instruction that reads what may be unwritten -/
def firstRead (p : List Ins) : Option Nat := (List.range p.length).find? (badAt p)

/-- P13.1: the error's number (0: none), its place -/
def program (p : List Ins) (size slots : Int) : Int × Option Nat :=
 if size < 0 ∨ 8 < size ∨ slots < 0 ∨ 64 < slots then (1, none)
 else if 16384 < p.length then (5, none)
 else match firstTouch size slots p.length 0 p with
  | some (e, i) => (e, some i)
  | none => match firstRead p with
   | some i => (21, some i)
   | none => (0, none)

end Go.Proofs.YtegjeincncccaaaGreatDoor.B
namespace Go.Proofs.YtegjeincncccaaaGreatDoor.B

structure OkTouch (p : List Ins) (size slots : Int) : Prop where
 right : ∀ (i : Nat) (x : Ins), p[i]? = some x → x.right = true
 touch : ∀ (i : Nat) (x : Ins), p[i]? = some x → x.touch size slots ((p.length : Int) - i - 1) = 0

structure MayRun (p : List Ins) (size slots : Int) : Prop where
 hsize : 0 ≤ size ∧ size ≤ 8
 hslots : 0 ≤ slots ∧ slots ≤ 64
 len : p.length ≤ 16384
 ok : OkTouch p size slots
 read : ∀ (i : Nat) (x : Ins), p[i]? = some x → ∀ r, x.reads r = true → ¬ May p r i

theorem firstTouch_none (size slots : Int) (len : Nat) : ∀ (l : List Ins) (i : Nat),
    firstTouch size slots len i l = none ↔ ∀ (j : Nat) x, l[j]? = some x → x.right = true ∧ x.touch size slots ((len : Int) - ((i + j : Nat) : Int) - 1) = 0 := by
 intro l
 induction l with
 | nil => intro i; simp [firstTouch]
 | cons x r ih =>
  intro i
  unfold firstTouch
  have hcons : (∀ (j : Nat) y, (x :: r)[j]? = some y → y.right = true ∧ y.touch size slots ((len : Int) - ((i + j : Nat) : Int) - 1) = 0) ↔
      ((x.right = true ∧ x.touch size slots ((len : Int) - i - 1) = 0) ∧ ∀ (j : Nat) y, r[j]? = some y → y.right = true ∧ y.touch size slots ((len : Int) - ((i + 1 + j : Nat) : Int) - 1) = 0) := by
   constructor
   ·intro h
    refine ⟨h 0 x rfl, fun j y hy => ?_⟩
    have := h (j + 1) y (by simpa using hy)
    rw [show i + 1 + j = i + (j + 1) by omega]; exact this
   ·rintro ⟨h1, h2⟩ j y hy
    cases j with
    | zero => simp at hy; subst hy; exact h1
    | succ j =>
     have := h2 j y (by simpa using hy)
     rw [show i + (j + 1) = i + 1 + j by omega]; exact this
  rw [hcons]
  by_cases h1 : x.right = false
  ·simp [h1]
  ·by_cases h2 : x.touch size slots ((len : Int) - i - 1) = 0
   ·rw [if_neg h1, if_neg (by simpa using h2), ih (i + 1)]
    simp at h1
    simp [h1, h2]
   ·rw [if_neg h1, if_pos h2]
    simp [h2]

theorem right_bounds {x : Ins} (h : x.right = true) : (0 ≤ x.op ∧ x.op ≤ 19) ∧ (0 ≤ x.a ∧ x.a ≤ 15) ∧ (0 ≤ x.b ∧ x.b ≤ 63) ∧ (0 ≤ x.n ∧ x.n ≤ 16384) ∧ (0 ≤ x.imm ∧ x.imm ≤ 18446744073709551615) := by
 unfold Ins.right isOp at h
 simp only [Bool.and_eq_true, decide_eq_true_eq] at h
 obtain ⟨⟨⟨⟨⟨h0, h1⟩, h2⟩, h3⟩, h4⟩, h5⟩ := h
 refine ⟨h0, ⟨h1.1, ?_⟩, ⟨h2.1, ?_⟩, ⟨?_, ?_⟩, ⟨h4.1, ?_⟩⟩
 ·have := h1.2; split at this <;> omega
 ·have := h2.2; unfold hiB at this; grind
 ·have := h3.1; unfold loN at this; split at this <;> omega
 ·have := h3.2; unfold hiN at this; grind
 ·have := h4.2; unfold hiImm at this; grind

theorem firstRead_none {p : List Ins} : firstRead p = none ↔ ∀ i, i < p.length → badAt p i = false := by
 unfold firstRead; rw [List.find?_eq_none]; simp

theorem program_ok (p : List Ins) (size slots : Int) : program p size slots = (0, none) ↔ MayRun p size slots := by
 unfold program
 by_cases h1 : size < 0 ∨ 8 < size ∨ slots < 0 ∨ 64 < slots
 ·rw [if_pos h1]
  simp only [Prod.mk.injEq]
  constructor
  ·rintro ⟨h, _⟩; omega
  ·intro h; have := h.hsize; have := h.hslots; omega
 ·rw [if_neg h1]
  by_cases h2 : 16384 < p.length
  ·rw [if_pos h2]
   simp only [Prod.mk.injEq]
   constructor
   ·rintro ⟨h, _⟩; omega
   ·intro h; have := h.len; omega
  ·rw [if_neg h2]
   have hft := firstTouch_none size slots p.length p 0
   cases hf : firstTouch size slots p.length 0 p with
   | some e =>
    simp only [Prod.mk.injEq]
    constructor
    ·rintro ⟨_, h⟩; simp at h
    ·intro h
     have := hft.2 (fun j x hx => ⟨h.ok.right j x hx, by simpa using h.ok.touch j x hx⟩)
     rw [hf] at this; simp at this
   | none =>
    have hok := hft.1 hf
    have ok : OkTouch p size slots := ⟨fun i x hx => (hok i x hx).1, fun i x hx => by simpa using (hok i x hx).2⟩
    have hreg : ∀ x ∈ p, 0 ≤ x.a ∧ 0 ≤ x.b := by
     intro x hx
     obtain ⟨i, hi⟩ := List.getElem?_of_mem hx
     have := right_bounds (ok.right i x hi)
     omega
    cases hr : firstRead p with
    | some i =>
     simp only [Prod.mk.injEq]
     constructor
     ·rintro ⟨h, _⟩; omega
     ·intro h
      have := firstRead_none.2 (fun i hi => by
       rw [Bool.eq_false_iff]
       intro hb
       have hx : p[i]? = some p[i] := List.getElem?_eq_getElem hi
       obtain ⟨r, hr1, hr2⟩ := (badAt_iff hreg hx).1 hb
       exact h.read i _ hx r hr1 hr2)
      rw [hr] at this; simp at this
    | none =>
     simp only [true_iff]
     refine ⟨by omega, by omega, by omega, ok, fun i x hx r hr1 hr2 => ?_⟩
     have hi : i < p.length := (List.getElem?_eq_some_iff.1 hx).1
     have := firstRead_none.1 hr i hi
     rw [(badAt_iff hreg hx).2 ⟨r, hr1, hr2⟩] at this
     simp at this

theorem touch_mono {x : Ins} {size slots left size' slots' left' : Int} (h : x.touch size slots left = 0) (h1 : size ≤ size') (h2 : slots ≤ slots') (h3 : left ≤ left') :
    x.touch size' slots' left' = 0 := by
 unfold Ins.touch at *
 grind

/-- P13.2 -/
theorem MayRun.more {p : List Ins} {size slots a b : Int} (h : MayRun p size slots) (ha : size ≤ a) (ha8 : a ≤ 8) (hb : slots ≤ b) (hb64 : b ≤ 64) : MayRun p a b :=
 ⟨⟨by have := h.hsize; omega, ha8⟩, ⟨by have := h.hslots; omega, hb64⟩, h.len,
  ⟨h.ok.right, fun i x hx => touch_mono (h.ok.touch i x hx) ha hb (Int.le_refl _)⟩, h.read⟩

theorem mayRun_nil {size slots : Int} (h : 0 ≤ size ∧ size ≤ 8) (h' : 0 ≤ slots ∧ slots ≤ 64) : MayRun [] size slots :=
 ⟨h, h', by simp, ⟨by simp, by simp⟩, by simp⟩

/-- in a program that may be run a step stays within -/
theorem goes_le {p : List Ins} {size slots : Int} (ok : OkTouch p size slots) {i j : Nat} {x : Ins} (hx : p[i]? = some x) (hg : x.goes i j) : j ≤ p.length := by
 have hi : i < p.length := (List.getElem?_eq_some_iff.1 hx).1
 rcases hg with ⟨_, rfl⟩ | ⟨hs, rfl⟩
 ·omega
 ·have ht := ok.touch i x hx
  have hr := right_bounds (ok.right i x hx)
  unfold Ins.skips at hs
  simp at hs
  unfold Ins.touch at ht
  rw [if_neg (by omega), if_neg (by omega), if_pos (by omega)] at ht
  split at ht
  ·omega
  ·omega

theorem May.le {p : List Ins} {size slots : Int} (ok : OkTouch p size slots) {r i : Nat} (h : May p r i) : i ≤ p.length := by
 cases h with
 | start => omega
 | step _ hx _ hg => exact goes_le ok hx hg

theorem Reach.le {p : List Ins} {size slots : Int} (ok : OkTouch p size slots) {i : Nat} (h : Reach p i) : i ≤ p.length := by
 cases h with
 | start => omega
 | step _ hx hg => exact goes_le ok hx hg

/-- a way within the first of two programs -/
theorem may_append_left {p q : List Ins} {r i : Nat} (h : May (p ++ q) r i) : i < p.length → May p r i := by
 induction h with
 | start => intro _; exact .start
 | @step i j x hm hx hw hg ih =>
  intro hj
  have hlt := Ins.goes_lt hg
  have hx' : p[i]? = some x := by rw [List.getElem?_append_left (by omega)] at hx; exact hx
  exact .step (ih (by omega)) hx' hw hg

theorem goes_shift {x : Ins} {i j k : Nat} : x.goes (k + i) (k + j) ↔ x.goes i j := by
 unfold Ins.goes
 constructor
 ·rintro (⟨h, e⟩ | ⟨h, e⟩)
  ·exact .inl ⟨h, by omega⟩
  ·exact .inr ⟨h, by omega⟩
 ·rintro (⟨h, e⟩ | ⟨h, e⟩)
  ·exact .inl ⟨h, by omega⟩
  ·exact .inr ⟨h, by omega⟩

/-- a way into the second of two programs goes through its beginning -/
theorem may_append_right {p q : List Ins} {size slots : Int} (ok : OkTouch p size slots) {r i : Nat} (h : May (p ++ q) r i) : ∀ k, i = p.length + k → May q r k := by
 induction h with
 | start =>
  intro k hk
  have : k = 0 := by omega
  subst this; exact .start
 | @step i j x hm hx hw hg ih =>
  intro k hk
  by_cases hi : i < p.length
  ·have hx' : p[i]? = some x := by rw [List.getElem?_append_left hi] at hx; exact hx
   have := goes_le ok hx' hg
   have : k = 0 := by omega
   subst this; exact .start
  ·have hx' : q[i - p.length]? = some x := by rw [List.getElem?_append_right (by omega)] at hx; exact hx
   refine .step (ih (i - p.length) (by omega)) hx' hw ?_
   have e1 : i = p.length + (i - p.length) := by omega
   rw [e1, hk] at hg
   exact goes_shift.1 hg

/-- P13.3 -/
theorem MayRun.append {p q : List Ins} {size slots : Int} (hp : MayRun p size slots) (hq : MayRun q size slots) (hlen : (p ++ q).length ≤ 16384) : MayRun (p ++ q) size slots := by
 refine ⟨hp.hsize, hp.hslots, hlen, ⟨fun i x hx => ?_, fun i x hx => ?_⟩, fun i x hx r hr hm => ?_⟩
 ·by_cases hi : i < p.length
  ·rw [List.getElem?_append_left hi] at hx; exact hp.ok.right i x hx
  ·rw [List.getElem?_append_right (by omega)] at hx; exact hq.ok.right _ x hx
 ·by_cases hi : i < p.length
  ·rw [List.getElem?_append_left hi] at hx
   exact touch_mono (hp.ok.touch i x hx) (Int.le_refl _) (Int.le_refl _) (by simp; omega)
  ·rw [List.getElem?_append_right (by omega)] at hx
   exact touch_mono (hq.ok.touch _ x hx) (Int.le_refl _) (Int.le_refl _) (by simp; omega)
 ·by_cases hi : i < p.length
  ·have := may_append_left hm hi
   rw [List.getElem?_append_left hi] at hx
   exact hp.read i x hx r hr this
  ·have := may_append_right hp.ok hm (i - p.length) (by omega)
   rw [List.getElem?_append_right (by omega)] at hx
   exact hq.read _ x hx r hr this

end Go.Proofs.YtegjeincncccaaaGreatDoor.B
namespace Go.Proofs.YtegjeincncccaaaGreatDoor.B

/-- an instruction with its registers named otherwise -/
def Ins.ren (f : Int → Int) (x : Ins) : Ins :=
 if x.op = 0 ∨ x.op = 18 then x else { x with a := f x.a, b := if 2 ≤ x.op ∧ x.op ≤ 5 then f x.b else x.b }

structure Renames (f : Int → Int) : Prop where
 low : ∀ r, 0 ≤ r → r ≤ 15 → 0 ≤ f r
 high : ∀ r, 0 ≤ r → r ≤ 15 → f r ≤ 15
 inj : ∀ r s, 0 ≤ r → r ≤ 15 → 0 ≤ s → s ≤ 15 → f r = f s → r = s

theorem ren_op (f : Int → Int) (x : Ins) : (x.ren f).op = x.op := by unfold Ins.ren; split <;> rfl
theorem ren_n (f : Int → Int) (x : Ins) : (x.ren f).n = x.n := by unfold Ins.ren; split <;> rfl
theorem ren_imm (f : Int → Int) (x : Ins) : (x.ren f).imm = x.imm := by unfold Ins.ren; split <;> rfl
theorem ren_isW (f : Int → Int) (x : Ins) : (x.ren f).isW = x.isW := by unfold Ins.isW; rw [ren_op]

theorem ren_goes (f : Int → Int) (x : Ins) (i j : Nat) : (x.ren f).goes i j ↔ x.goes i j := by
 unfold Ins.goes Ins.next Ins.skips; rw [ren_op, ren_n]

theorem ren_right {f : Int → Int} (hf : Renames f) {x : Ins} (h : x.right = true) : (x.ren f).right = true := by
 have hb := right_bounds h
 have hA := hf.low x.a hb.2.1.1 hb.2.1.2
 have hA' := hf.high x.a hb.2.1.1 hb.2.1.2
 unfold Ins.ren
 split
 ·exact h
 ·rename_i hne
  have hnz : hasA x.op = true ∨ hasA x.op = false := by cases hasA x.op <;> simp
  unfold Ins.right isOp at *
  simp only [Bool.and_eq_true, decide_eq_true_eq] at h ⊢
  obtain ⟨⟨⟨⟨⟨h0, h1⟩, h2⟩, h3⟩, h4⟩, h5⟩ := h
  have hasA' : hasA x.op = true := by unfold hasA; simp; omega
  refine ⟨⟨⟨⟨⟨h0, ?_⟩, ?_⟩, h3⟩, h4⟩, ?_⟩
  ·rw [hasA']; simp; omega
  ·split
   ·rename_i h25
    have hb15 : hiB x.op = 15 := by unfold hiB; rw [if_pos h25]
    rw [hb15] at h2 ⊢
    exact ⟨hf.low _ h2.1 h2.2, hf.high _ h2.1 h2.2⟩
   ·exact h2
  ·simp only [Bool.or_eq_true, Bool.not_eq_true', decide_eq_false_iff_not, decide_eq_true_eq] at h5 ⊢
   rcases h5 with h5 | h5
   ·exact .inl h5
   ·by_cases h9 : 9 ≤ x.op ∧ x.op ≤ 13
    ·right; rw [if_neg (by omega)]; exact h5
    ·exact .inl h9

theorem ren_touch (f : Int → Int) (x : Ins) (size slots left : Int) : (x.ren f).touch size slots left = x.touch size slots left := by
 unfold Ins.touch
 rw [ren_op, ren_n]
 have hb : ¬ (2 ≤ x.op ∧ x.op ≤ 5) → (x.ren f).b = x.b := by
  intro h; unfold Ins.ren; split
  ·rfl
  ·simp
 split
 ·rw [hb (by omega)]
 ·split
  ·rw [hb (by omega)]
  ·rfl

theorem ren_a {f : Int → Int} {x : Ins} (h : x.op ≠ 0) (h' : x.op ≠ 18) : (x.ren f).a = f x.a := by
 unfold Ins.ren; rw [if_neg (by omega)]
theorem ren_b {f : Int → Int} {x : Ins} (h : 2 ≤ x.op ∧ x.op ≤ 5) : (x.ren f).b = f x.b := by
 unfold Ins.ren; rw [if_neg (by omega)]; simp [h]

theorem eq_ren {f : Int → Int} (hf : Renames f) {a : Int} (h0 : 0 ≤ a) (h15 : a ≤ 15) {r : Nat} (hr : r ≤ 15) : (f a == ((f r).toNat : Int)) = (a == (r : Int)) := by
 have := hf.low r (by omega) (by omega)
 rw [Int.toNat_of_nonneg this, Bool.eq_iff_iff]
 simp only [beq_iff_eq]
 constructor
 ·intro h; exact hf.inj _ _ h0 h15 (by omega) (by omega) h
 ·intro h; rw [h]

theorem ren_writes {f : Int → Int} (hf : Renames f) {x : Ins} (h : x.right = true) {r : Nat} (hr : r ≤ 15) : (x.ren f).writes (f r).toNat = x.writes r := by
 have hb := right_bounds h
 unfold Ins.writes
 rw [ren_isW]
 cases hw : x.isW with
 | false => rfl
 | true =>
  unfold Ins.isW at hw
  simp at hw
  rw [ren_a (by omega) (by omega), eq_ren hf hb.2.1.1 hb.2.1.2 hr]

theorem ren_reads {f : Int → Int} (hf : Renames f) {x : Ins} (h : x.right = true) {r : Nat} (hr : r ≤ 15) : (x.ren f).reads (f r).toNat = x.reads r := by
 have hb := right_bounds h
 unfold Ins.reads
 rw [ren_op]
 split
 ·rename_i h2
  have hb15 : x.b ≤ 15 := by
   unfold Ins.right at h; simp only [Bool.and_eq_true, decide_eq_true_eq] at h
   have := h.1.1.1.2.2; unfold hiB at this; rw [if_pos (by omega)] at this; exact this
  rw [ren_b (by omega), eq_ren hf hb.2.2.1.1 hb15 hr]
 ·split
  ·rename_i h35
   have hb15 : x.b ≤ 15 := by
    unfold Ins.right at h; simp only [Bool.and_eq_true, decide_eq_true_eq] at h
    have := h.1.1.1.2.2; unfold hiB at this; rw [if_pos (by omega)] at this; exact this
   rw [ren_b (by omega), ren_a (by omega) (by omega), eq_ren hf hb.2.2.1.1 hb15 hr, eq_ren hf hb.2.1.1 hb.2.1.2 hr]
  ·split
   ·rw [ren_a (by omega) (by omega), eq_ren hf hb.2.1.1 hb.2.1.2 hr]
   ·rfl

/-- what is read is one of the sixteen -/
theorem reads_le {x : Ins} (h : x.right = true) {r : Nat} (hr : x.reads r = true) : r ≤ 15 := by
 have hb := right_bounds h
 have hB : (2 ≤ x.op ∧ x.op ≤ 5) → x.b ≤ 15 := by
  intro h25
  unfold Ins.right at h; simp only [Bool.and_eq_true, decide_eq_true_eq] at h
  have := h.1.1.1.2.2; unfold hiB at this; rw [if_pos h25] at this; exact this
 unfold Ins.reads at hr
 split at hr
 ·have := hB (by omega); simp at hr; omega
 ·split at hr
  ·have := hB (by omega); simp at hr; omega
  ·split at hr
   ·simp at hr; omega
   ·simp at hr

/-- what is read of a renamed one is the new name of what is read -/
theorem ren_reads_inv {f : Int → Int} {x : Ins} (h : x.right = true) {s : Nat} (hs : (x.ren f).reads s = true) : ∃ r : Nat, r ≤ 15 ∧ s = (f r).toNat ∧ x.reads r = true := by
 have hb := right_bounds h
 have hB : (2 ≤ x.op ∧ x.op ≤ 5) → x.b ≤ 15 := by
  intro h25
  unfold Ins.right at h; simp only [Bool.and_eq_true, decide_eq_true_eq] at h
  have := h.1.1.1.2.2; unfold hiB at this; rw [if_pos h25] at this; exact this
 have key : ∀ z : Int, 0 ≤ z → z ≤ 15 → f z = (s : Int) → ∃ r : Nat, r ≤ 15 ∧ s = (f r).toNat ∧ (r : Int) = z := by
  intro z h0 h15 he
  refine ⟨z.toNat, by omega, ?_, by omega⟩
  rw [show ((z.toNat : Nat) : Int) = z by omega, he]; simp
 unfold Ins.reads at hs
 rw [ren_op] at hs
 split at hs
 ·rename_i h2
  rw [ren_b (by omega)] at hs
  obtain ⟨r, h1, h2', h3⟩ := key x.b hb.2.2.1.1 (hB (by omega)) (by simpa using hs)
  exact ⟨r, h1, h2', by unfold Ins.reads; rw [if_pos h2]; simp; omega⟩
 ·split at hs
  ·rename_i h2 h35
   rw [ren_b (by omega), ren_a (by omega) (by omega)] at hs
   simp only [Bool.or_eq_true, beq_iff_eq] at hs
   rcases hs with hs | hs
   ·obtain ⟨r, h1, h2', h3⟩ := key x.a hb.2.1.1 hb.2.1.2 hs
    exact ⟨r, h1, h2', by unfold Ins.reads; rw [if_neg h2, if_pos h35]; simp; omega⟩
   ·obtain ⟨r, h1, h2', h3⟩ := key x.b hb.2.2.1.1 (hB (by omega)) hs
    exact ⟨r, h1, h2', by unfold Ins.reads; rw [if_neg h2, if_pos h35]; simp; omega⟩
  ·split at hs
   ·rename_i h2 h35 hr
    rw [ren_a (by omega) (by omega)] at hs
    obtain ⟨r, h1, h2', h3⟩ := key x.a hb.2.1.1 hb.2.1.2 (by simpa using hs)
    exact ⟨r, h1, h2', by unfold Ins.reads; rw [if_neg h2, if_neg h35, if_pos hr]; simp; omega⟩
   ·simp at hs

theorem ren_may {f : Int → Int} (hf : Renames f) {p : List Ins} (hp : ∀ x ∈ p, x.right = true) {r : Nat} (hr : r ≤ 15) (i : Nat) : May (p.map (Ins.ren f)) (f r).toNat i ↔ May p r i := by
 constructor
 ·intro h
  induction h with
  | start => exact .start
  | @step i j y hm hy hw hg ih =>
   rw [List.getElem?_map] at hy
   cases hx : p[i]? with
   | none => rw [hx] at hy; simp at hy
   | some x =>
    rw [hx] at hy; simp at hy; subst hy
    rw [ren_writes hf (hp x (List.mem_of_getElem? hx)) hr] at hw
    exact .step ih hx hw ((ren_goes f x i j).1 hg)
 ·intro h
  induction h with
  | start => exact .start
  | @step i j x hm hx hw hg ih =>
   refine .step ih (x := x.ren f) (by rw [List.getElem?_map, hx]; rfl) ?_ ((ren_goes f x i j).2 hg)
   rw [ren_writes hf (hp x (List.mem_of_getElem? hx)) hr]; exact hw

theorem ren_okTouch {f : Int → Int} (hf : Renames f) {p : List Ins} {size slots : Int} (ok : OkTouch p size slots) : OkTouch (p.map (Ins.ren f)) size slots := by
 constructor
 ·intro i y hy
  rw [List.getElem?_map] at hy
  cases hx : p[i]? with
  | none => rw [hx] at hy; simp at hy
  | some x => rw [hx] at hy; simp at hy; subst hy; exact ren_right hf (ok.right i x hx)
 ·intro i y hy
  rw [List.getElem?_map] at hy
  cases hx : p[i]? with
  | none => rw [hx] at hy; simp at hy
  | some x => rw [hx] at hy; simp at hy; subst hy; rw [ren_touch, List.length_map]; exact ok.touch i x hx

theorem OkTouch.mem {p : List Ins} {size slots : Int} (ok : OkTouch p size slots) : ∀ x ∈ p, x.right = true := by
 intro x hx
 obtain ⟨i, hi⟩ := List.getElem?_of_mem hx
 exact ok.right i x hi

theorem OkTouch.regs {p : List Ins} {size slots : Int} (ok : OkTouch p size slots) : ∀ x ∈ p, 0 ≤ x.a ∧ 0 ≤ x.b := by
 intro x hx
 have := right_bounds (ok.mem x hx)
 omega

theorem ren_badAt {f : Int → Int} (hf : Renames f) {p : List Ins} {size slots : Int} (ok : OkTouch p size slots) (i : Nat) : badAt (p.map (Ins.ren f)) i = badAt p i := by
 cases hx : p[i]? with
 | none => unfold badAt; rw [List.getElem?_map, hx]; rfl
 | some x =>
  have hx' : (p.map (Ins.ren f))[i]? = some (x.ren f) := by rw [List.getElem?_map, hx]; rfl
  have hr := ok.right i x hx
  rw [Bool.eq_iff_iff, badAt_iff (ren_okTouch hf ok).regs hx', badAt_iff ok.regs hx]
  constructor
  ·rintro ⟨s, hs, hm⟩
   obtain ⟨r, h1, rfl, h2⟩ := ren_reads_inv hr hs
   exact ⟨r, h2, (ren_may hf ok.mem h1 i).1 hm⟩
  ·rintro ⟨r, h1, h2⟩
   have hle := reads_le hr h1
   exact ⟨(f r).toNat, by rw [ren_reads hf hr hle]; exact h1, (ren_may hf ok.mem hle i).2 h2⟩

theorem okTouch_iff (p : List Ins) (size slots : Int) : firstTouch size slots p.length 0 p = none ↔ OkTouch p size slots := by
 rw [firstTouch_none]
 constructor
 ·intro h; exact ⟨fun i x hx => (h i x hx).1, fun i x hx => by simpa using (h i x hx).2⟩
 ·intro h j x hx; exact ⟨h.right j x hx, by simpa using h.touch j x hx⟩

/-- P13.4, the names -/
theorem program_ren {f : Int → Int} (hf : Renames f) {p : List Ins} {size slots : Int} (ok : OkTouch p size slots) : program (p.map (Ins.ren f)) size slots = program p size slots := by
 unfold program
 rw [List.length_map]
 have h1 := (okTouch_iff p size slots).2 ok
 have h2 := (okTouch_iff (p.map (Ins.ren f)) size slots).2 (ren_okTouch hf ok)
 rw [List.length_map] at h2
 rw [h1, h2]
 have : firstRead (p.map (Ins.ren f)) = firstRead p := by
  unfold firstRead
  rw [List.length_map]
  congr 1
  funext i
  exact ren_badAt hf ok i
 rw [this]

/-- a way through a program that begins with a skip over its next instructions -/
theorem may_skip {m : Nat} {l p : List Ins} (hl : l.length = m) {r i : Nat} (h : May (⟨18, 0, 0, m, 0⟩ :: (l ++ p)) r i) : i = 0 ∨ ∃ k, i = m + 1 + k ∧ May p r k := by
 induction h with
 | start => exact .inl rfl
 | @step i j x hm hx hw hg ih =>
  right
  rcases ih with rfl | ⟨k, rfl, hk⟩
  ·simp at hx
   subst hx
   unfold Ins.goes Ins.next Ins.skips at hg
   simp at hg
   exact ⟨0, by omega, .start⟩
  ·have hx' : p[k]? = some x := by
     rw [show m + 1 + k = (m + k) + 1 by omega, List.getElem?_cons_succ, List.getElem?_append_right (by omega)] at hx
     rw [show m + k - l.length = k by omega] at hx
     exact hx
   have hlt := Ins.goes_lt hg
   have e : j = m + 1 + (j - (m + 1)) := by omega
   rw [e] at hg ⊢
   exact ⟨j - (m + 1), rfl, .step hk hx' hw (goes_shift.1 hg)⟩

/-- an instruction, alone -/
theorem single_ok {x : Ins} {size slots : Int} (h : (program [x] size slots).1 = 0 ∨ (program [x] size slots).1 = 21) : x.right = true ∧ x.touch size slots 0 = 0 := by
 unfold program at h
 split at h
 ·simp at h
 ·split at h
  ·simp at h
  ·cases hf : firstTouch size slots [x].length 0 [x] with
   | some e =>
    rw [hf] at h
    unfold firstTouch at hf
    split at hf
    ·simp at hf; subst hf; simp at h
    ·split at hf
     ·rename_i hne
      simp at hf; subst hf
      exfalso
      simp only [List.length_cons, List.length_nil] at hne h
      generalize hz : (((0 + 1 : Nat) : Int) - ((0 : Nat) : Int) - 1) = z at hne h
      have : x.touch size slots 0 ≠ 0 ∧ (x.touch size slots 0 = 0 ∨ x.touch size slots 0 = 21) := by simpa [← hz] using And.intro hne h
      unfold Ins.touch at this
      grind
     ·simp [firstTouch] at hf
   | none =>
    have := (okTouch_iff [x] size slots).1 hf
    exact ⟨this.right 0 x rfl, by simpa using this.touch 0 x rfl⟩

theorem halt_ok (size slots left : Int) : (⟨0, 0, 0, 0, 0⟩ : Ins).right = true ∧ (⟨0, 0, 0, 0, 0⟩ : Ins).touch size slots left = 0 := by
 constructor
 ·decide
 ·simp [Ins.touch]

/-- P13.4, what is passed over -/
theorem MayRun.passed {p l : List Ins} {size slots : Int} (hp : MayRun p size slots) (hl : ∀ x ∈ l, x.right = true ∧ x.touch size slots 0 = 0) (hlen : l.length + 1 + p.length ≤ 16384) :
    MayRun (⟨18, 0, 0, l.length, 0⟩ :: (l ++ p)) size slots := by
 have hlen' : (⟨18, 0, 0, l.length, 0⟩ :: (l ++ p) : List Ins).length = l.length + 1 + p.length := by simp; omega
 refine ⟨hp.hsize, hp.hslots, by omega, ⟨fun i x hx => ?_, fun i x hx => ?_⟩, fun i x hx r hr hm => ?_⟩
 ·cases i with
  | zero =>
   simp at hx; subst hx
   simp [Ins.right, isOp, hasA, hiB, loN, hiN, hiImm]; omega
  | succ i =>
   rw [List.getElem?_cons_succ] at hx
   by_cases hi : i < l.length
   ·rw [List.getElem?_append_left hi] at hx
    exact (hl x (List.mem_of_getElem? hx)).1
   ·rw [List.getElem?_append_right (by omega)] at hx
    exact hp.ok.right _ x hx
 ·rw [hlen']
  cases i with
  | zero =>
   simp at hx; subst hx
   simp [Ins.touch]; omega
  | succ i =>
   rw [List.getElem?_cons_succ] at hx
   by_cases hi : i < l.length
   ·rw [List.getElem?_append_left hi] at hx
    exact touch_mono (hl x (List.mem_of_getElem? hx)).2 (Int.le_refl _) (Int.le_refl _) (by omega)
   ·rw [List.getElem?_append_right (by omega)] at hx
    exact touch_mono (hp.ok.touch _ x hx) (Int.le_refl _) (Int.le_refl _) (by omega)
 ·rcases may_skip rfl hm with rfl | ⟨k, rfl, hk⟩
  ·simp at hx; subst hx
   simp [Ins.reads] at hr
  ·rw [show l.length + 1 + k = (l.length + k) + 1 by omega, List.getElem?_cons_succ, List.getElem?_append_right (by omega)] at hx
   rw [show l.length + k - l.length = k by omega] at hx
   exact hp.read k x hx r hr hk

end Go.Proofs.YtegjeincncccaaaGreatDoor.B
