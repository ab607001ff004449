/- Plain Lean: the moves as the document of fuse reads them are the moves that stand there; the pair that belongs together; a program with a pair joined. -/
import Derived.Test.YtmpeipdeablkdaaGreatDoorFuX
namespace Go.Proofs.YtmpeipdeablkdaaGreatDoor.B

/-- what stands at no place -/
def noI : Ins := ⟨-1, 0, 0, 0, 0⟩
/-- the instruction at a place, or none -/
def atR (p : List Ins) (i : Nat) : Ins := (p[i]?).getD noI
def shR (x : Ins) (t : Int) : Int × Bool := if x.a = t ∧ x.op = 6 then (x.n, true) else if x.a = t ∧ x.op = 7 then (-x.n, true) else (0, false)
def inR (p : List Ins) (i : Nat) : Option Mv :=
 if (atR p i).op = 2 ∧ (atR p i).a ≠ (atR p i).b then
  let s := shR (atR p (i + 1)) (atR p i).a
  let y := atR p (i + (1 + s.2.toNat))
  if y.op = 13 ∧ y.a = (atR p i).a then some ⟨true, (atR p i).a, (atR p i).b, 8 * y.b + s.1, y.b.toNat, (y.b + y.n).toNat, lowBits y.imm.toNat y.n.toNat, s.2.toNat + 2⟩ else none
 else none
def outR (p : List Ins) (i : Nat) : Option Mv :=
 if (atR p i).op = 9 ∧ (atR p (i + 1)).op = 8 ∧ (atR p (i + 1)).a = (atR p i).a then
  let s := shR (atR p (i + 2)) (atR p i).a
  let z := atR p (i + (2 + s.2.toNat))
  if z.op = 4 ∧ z.b = (atR p i).a ∧ z.a ≠ (atR p i).a then some ⟨false, (atR p i).a, z.a, s.1 - 8 * (atR p i).b, (atR p i).b.toNat, ((atR p i).b + (atR p i).n).toNat, lowBits (atR p (i + 1)).imm.toNat (atR p i).n.toNat, s.2.toNat + 3⟩ else none
 else none
def moveR (p : List Ins) (i : Nat) : Option Mv := match inR p i with
 | some m => some m
 | none => outR p i

theorem atR_drop (p : List Ins) (i k : Nat) : atR p (i + k) = ((p.drop i)[k]?).getD noI := by unfold atR; rw [List.getElem?_drop]

theorem moveR_eq (p : List Ins) (i : Nat) : moveR p i = readMv (p.drop i) := by
 have h := atR_drop p i
 have h0 : atR p i = ((p.drop i)[0]?).getD noI := h 0
 unfold moveR inR outR
 rw [h0]
 simp only [h]
 generalize p.drop i = l
 clear h h0
 match l with
 | [] => simp [noI, readMv]
 | [x] => simp [noI, readMv, shR]
 | x :: y :: l =>
  rw [readMv_cons]
  by_cases c1 : x.op = 2 ∧ x.a ≠ x.b
  ·have c9 : ¬ x.op = 9 := by omega
   simp only [List.getElem?_cons_zero, Option.getD_some, List.getElem?_cons_succ, if_pos c1, c9, false_and, if_false]
   rw [shiftOf_cons]
   unfold shR
   by_cases d1 : y.a = x.a ∧ y.op = 6
   ·simp only [if_pos d1]
    cases l with
    | nil => simp [noI]
    | cons z r => by_cases e : z.op = 13 ∧ z.a = x.a <;> simp [e] <;> omega
   ·simp only [if_neg d1]
    by_cases d2 : y.a = x.a ∧ y.op = 7
    ·simp only [if_pos d2]
     cases l with
     | nil => simp [noI]
     | cons z r => by_cases e : z.op = 13 ∧ z.a = x.a <;> simp [e] <;> omega
    ·simp only [if_neg d2]
     by_cases e : y.op = 13 ∧ y.a = x.a <;> simp [e] <;> omega
  ·simp only [List.getElem?_cons_zero, Option.getD_some, List.getElem?_cons_succ, if_neg c1]
   by_cases c2 : x.op = 9 ∧ y.op = 8 ∧ y.a = x.a
   ·simp only [if_pos c2]
    cases l with
    | nil => simp [noI, shR, shiftOf]
    | cons z r =>
     rw [shiftOf_cons]
     unfold shR
     by_cases d1 : z.a = x.a ∧ z.op = 6
     ·simp only [if_pos d1]
      cases r with
      | nil => simp [noI, d1]
      | cons u r => by_cases e : u.op = 4 ∧ u.b = x.a ∧ u.a ≠ x.a <;> simp [e, d1] <;> omega
     ·simp only [if_neg d1]
      by_cases d2 : z.a = x.a ∧ z.op = 7
      ·simp only [if_pos d2]
       cases r with
       | nil => simp [noI, d2]
       | cons u r => by_cases e : u.op = 4 ∧ u.b = x.a ∧ u.a ≠ x.a <;> simp [e, d2] <;> omega
      ·simp only [if_neg d2]
       by_cases e : z.op = 4 ∧ z.b = x.a ∧ z.a ≠ x.a <;> simp [e, d1, d2] <;> omega
   ·simp only [if_neg c2]

/-- the pair at a place, as the document reads it -/
def togR (p : List Ins) (i : Nat) : Option (Mv × Mv) := match readMv (p.drop i) with
 | none => none
 | some a => match readMv (p.drop (i + a.size)) with
  | none => none
  | some b => if sameWay a b = true ∧ someIn (entd p) (i + 1) (i + a.size + b.size) = false ∧ ndL p (i + a.size + b.size) a.t.toNat = false then some (a, b) else none

theorem togR_eq (p : List Ins) (i : Nat) : togR p i = pairAt p i := by
 unfold togR pairAt nextMv
 cases hm : readMv (p.drop i) with
 | none => rfl
 | some a =>
  obtain ⟨_, _, _, hc⟩ := readMv_inv hm
  have hz := hc.size_ge
  simp only
  cases readMv (p.drop (i + a.size)) with
  | none => simp
  | some b =>
   simp only
   by_cases h1 : someIn (entd p) (i + 1) (i + a.size) = true
   ·rw [if_pos h1, if_neg]
    rintro ⟨_, h2, _⟩
    rw [someIn_sub (Nat.le_refl _) (Nat.le_add_right _ _) h2] at h1
    cases h1
   ·rw [if_neg h1]
    have h1 : someIn (entd p) (i + 1) (i + a.size) = false := by simpa using h1
    have he : someIn (entd p) (i + 1) (i + a.size + b.size) = false ↔ someIn (entd p) (i + a.size) (i + a.size + b.size) = false := by
     constructor
     ·exact fun h => someIn_sub (by omega) (Nat.le_refl _) h
     ·exact fun h => someIn_or _ h1 h
    simp only [he]
    split <;> rfl

theorem fuseN_more {size slots : Int} : ∀ (f : Nat) {p : List Ins}, p.length ≤ f → OkTouch p size slots → fuseN (f + 1) p = fuseN f p
 | 0, p, hf, _ => by
  obtain rfl : p = [] := List.length_eq_zero_iff.1 (by omega)
  rfl
 | f + 1, p, hf, ok => by
  unfold fuseN
  cases ho : once p with
  | none => rfl
  | some q =>
   obtain ⟨i, a, b, hpair, hfirst, rfl⟩ := once_some ho
   have := step_less ok.mem hpair
   exact fuseN_more f (by omega) (step_ok ok hpair hfirst)

theorem fuseN_all {size slots : Int} (p : List Ins) (ok : OkTouch p size slots) : ∀ k, fuseN (p.length + k) p = fuse p
 | 0 => rfl
 | k + 1 => (fuseN_more (p.length + k) (by omega) ok).trans (fuseN_all p ok k)

/-- a step of joining -/
theorem fuse_step {size slots : Int} {p q : List Ins} (hm : MayRun p size slots) (h : once p = some q) : MayRun q size slots ∧ q.length < p.length ∧ fuse p = fuse q := by
 obtain ⟨i, a, b, hpair, hfirst, rfl⟩ := once_some h
 have hl := step_less hm.ok.mem hpair
 have hq := step_may hm hpair hfirst
 refine ⟨hq, hl, ?_⟩
 rw [← fuseN_all _ hq.ok (p.length - 1 - (put p i (a.size + b.size) (joinM a b).code).length)]
 unfold fuse
 obtain ⟨f, hf⟩ : ∃ f, p.length = f + 1 := ⟨p.length - 1, by omega⟩
 rw [hf, show (put p i (a.size + b.size) (joinM a b).code).length + (f + 1 - 1 - (put p i (a.size + b.size) (joinM a b).code).length) = f by omega]
 show (match once p with | some q => fuseN f q | none => p) = _
 rw [h]

/-- no step any more -/
theorem fuse_stop {p : List Ins} (h : once p = none) : fuse p = p := fuseN_done _ h

/-- a program with other instructions in the place of some, as far as its first k instructions go -/
def putTo (p : List Ins) (i L : Nat) (C : List Ins) (k : Nat) : List Ins :=
 ((p.take (min k i)).mapIdx fun j x => fixI i L C.length j x) ++ (if i < k then C else []) ++ (p.drop (i + L)).take (k - (i + L))
theorem putTo_zero (p : List Ins) (i L : Nat) (C : List Ins) : putTo p i L C 0 = [] := by simp [putTo]
theorem putTo_lt {p : List Ins} {i L : Nat} {C : List Ins} {k : Nat} {x : Ins} (hk : k < i) (hx : p[k]? = some x) : putTo p i L C (k + 1) = putTo p i L C k ++ [fixI i L C.length k x] := by
 have hl := (List.getElem?_eq_some_iff.1 hx).1
 unfold putTo
 rw [if_neg (by omega), if_neg (by omega), show k + 1 - (i + L) = 0 by omega, show k - (i + L) = 0 by omega, show min (k + 1) i = k + 1 by omega, show min k i = k by omega]
 have e : p.take (k + 1) = p.take k ++ [x] := by rw [List.take_add_one, hx]; rfl
 rw [e, List.mapIdx_append]
 simp [List.length_take, show min k p.length = k by omega]
theorem putTo_at {p : List Ins} {i L : Nat} {C : List Ins} (hL : 1 ≤ L) : putTo p i L C (i + 1) = putTo p i L C i ++ C := by
 unfold putTo
 rw [if_pos (by omega), if_neg (by omega), show i + 1 - (i + L) = 0 by omega, show i - (i + L) = 0 by omega, show min (i + 1) i = i by omega, show min i i = i by omega]
 simp
theorem putTo_mid {p : List Ins} {i L : Nat} {C : List Ins} {k : Nat} (h1 : i < k) (h2 : k < i + L) : putTo p i L C (k + 1) = putTo p i L C k := by
 unfold putTo
 rw [if_pos (by omega), if_pos (by omega), show k + 1 - (i + L) = 0 by omega, show k - (i + L) = 0 by omega, show min (k + 1) i = i by omega, show min k i = i by omega]
theorem putTo_ge {p : List Ins} {i L : Nat} {C : List Ins} {k : Nat} {x : Ins} (hL : 1 ≤ L) (hk : i + L ≤ k) (hx : p[k]? = some x) : putTo p i L C (k + 1) = putTo p i L C k ++ [x] := by
 unfold putTo
 rw [if_pos (by omega), if_pos (by omega), show min (k + 1) i = i by omega, show min k i = i by omega, show k + 1 - (i + L) = (k - (i + L)) + 1 by omega]
 have e : (p.drop (i + L)).take (k - (i + L) + 1) = (p.drop (i + L)).take (k - (i + L)) ++ [x] := by
  rw [List.take_add_one, List.getElem?_drop, show i + L + (k - (i + L)) = k by omega, hx]; rfl
 rw [e]
 simp only [List.append_assoc]
theorem putTo_end {p : List Ins} {i L : Nat} {C : List Ins} (hL : 1 ≤ L) (h : i + L ≤ p.length) : putTo p i L C p.length = put p i L C := by
 unfold putTo put
 have e : (p.drop (i + L)).take (p.length - (i + L)) = p.drop (i + L) := List.take_of_length_le (by rw [List.length_drop]; exact Nat.le_refl _)
 rw [if_pos (by omega), show min p.length i = i by omega, e]
theorem putTo_len {p : List Ins} {i L : Nat} {C : List Ins} (k : Nat) : (putTo p i L C k).length ≤ k + C.length := by
 unfold putTo
 simp only [List.length_append, List.length_mapIdx, List.length_take, List.length_drop]
 split <;> simp <;> omega

end Go.Proofs.YtmpeipdeablkdaaGreatDoor.B
