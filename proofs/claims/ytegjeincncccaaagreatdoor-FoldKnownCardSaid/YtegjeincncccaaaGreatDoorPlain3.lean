/- Plain Lean: which instructions of a program stay; what stays comes to the same; nothing more can go. -/
import Derived.Test.YtegjeincncccaaaGreatDoorPlain2
namespace Go.Proofs.YtegjeincncccaaaGreatDoor.B

/-! live: which instructions stay -/

structure Bk where
 stay : Nat → Bool
 read : Nat → Nat → Bool

/-- one of the instructions from a up to ahead of b stays -/
def someIn (st : Nat → Bool) (a b : Nat) : Bool := (List.range b).any fun j => decide (a ≤ j) && st j

def reachB (p : List Ins) (i : Nat) : Bool := (stAt p i i).isSome

theorem reachB_iff (p : List Ins) (i : Nat) : reachB p i = true ↔ Reach p i := by
 unfold reachB
 rw [stAt_reach, reachBy_reach (Nat.le_refl i)]

/-- what is read behind an instruction -/
def behind (x : Ins) (i : Nat) (rd : Nat → Nat → Bool) (r : Nat) : Bool :=
 (x.next && rd (i + 1) r) || (x.skips && rd (i + 1 + x.n.toNat) r)

/-- does it stay, if a way comes to it -/
def useful (len : Nat) (x : Ins) (i : Nat) (st : Nat → Bool) (rd : Nat → Nat → Bool) : Bool :=
 if x.op = 0 then someIn st (i + 1) len
 else if x.skips then someIn st (i + 1) (i + 1 + x.n.toNat)
 else !x.isW || behind x i rd x.a.toNat

def bkStep (p : List Ins) (x : Ins) (i : Nat) (b : Bk) : Bk :=
 let s := reachB p i && useful p.length x i b.stay b.read
 { stay := fun j => if j = i then s else b.stay j
   read := fun j r => if j = i then (if s then x.reads r || (behind x i b.read r && !x.writes r) else behind x i b.read r) else b.read j r }

/-- behind the last k instructions -/
def bk (p : List Ins) : Nat → Bk
 | 0 => ⟨fun _ => false, fun _ _ => false⟩
 | k + 1 => match p[p.length - (k + 1)]? with
  | some x => bkStep p x (p.length - (k + 1)) (bk p k)
  | none => bk p k

def stay (p : List Ins) (i : Nat) : Bool := (bk p p.length).stay i
def rdAt (p : List Ins) (i r : Nat) : Bool := (bk p p.length).read i r

theorem bk_stable (p : List Ins) (k : Nat) : ∀ m, k ≤ m → m ≤ p.length → ∀ j, p.length - k ≤ j → (bk p m).stay j = (bk p k).stay j ∧ ∀ r, (bk p m).read j r = (bk p k).read j r := by
 intro m hkm
 induction m with
 | zero => intro _ j _; have : k = 0 := by omega
           subst this; exact ⟨rfl, fun _ => rfl⟩
 | succ m ih =>
  intro hm j hj
  by_cases h : k = m + 1
  ·subst h; exact ⟨rfl, fun _ => rfl⟩
  ·have := ih (by omega) (by omega) j hj
   have hlt : p.length - (m + 1) < p.length := by omega
   have hne : j ≠ p.length - (m + 1) := by omega
   rw [bk, List.getElem?_eq_getElem hlt]
   simp only [bkStep, if_neg hne]
   exact this

theorem useful_congr {len : Nat} {x : Ins} {i : Nat} {st st' : Nat → Bool} {rd rd' : Nat → Nat → Bool} (h : ∀ j, i < j → st j = st' j) (h' : ∀ j r, i < j → rd j r = rd' j r) :
    useful len x i st rd = useful len x i st' rd' := by
 have hb : ∀ r, behind x i rd r = behind x i rd' r := by
  intro r; unfold behind; rw [h' _ _ (by omega), h' _ _ (by omega)]
 have hs : ∀ b, someIn st (i + 1) b = someIn st' (i + 1) b := by
  intro b; unfold someIn
  rw [Bool.eq_iff_iff]
  simp only [List.any_eq_true, List.mem_range, Bool.and_eq_true, decide_eq_true_eq]
  constructor
  ·rintro ⟨j, h1, h2, h3⟩; exact ⟨j, h1, h2, by rw [← h j (by omega)]; exact h3⟩
  ·rintro ⟨j, h1, h2, h3⟩; exact ⟨j, h1, h2, by rw [h j (by omega)]; exact h3⟩
 unfold useful
 rw [hs, hs, hb]

theorem behind_congr {x : Ins} {i : Nat} {rd rd' : Nat → Nat → Bool} (h' : ∀ j r, i < j → rd j r = rd' j r) (r : Nat) : behind x i rd r = behind x i rd' r := by
 unfold behind; rw [h' _ _ (by omega), h' _ _ (by omega)]

theorem stay_eq {p : List Ins} {i : Nat} {x : Ins} (hx : p[i]? = some x) : stay p i = (reachB p i && useful p.length x i (stay p) (rdAt p)) := by
 have hi := (List.getElem?_eq_some_iff.1 hx).1
 have e := (bk_stable p (p.length - i) p.length (by omega) (Nat.le_refl _) i (by omega)).1
 unfold stay
 rw [e, show p.length - i = (p.length - i - 1) + 1 by omega, bk, show p.length - (p.length - i - 1 + 1) = i by omega, hx]
 simp only [bkStep, if_true]
 congr 1
 have hs := bk_stable p (p.length - i - 1) p.length (by omega) (Nat.le_refl _)
 refine useful_congr (fun j hj => ?_) (fun j r hj => ?_)
 ·exact ((hs j (by omega)).1).symm
 ·exact ((hs j (by omega)).2 r).symm

theorem rdAt_eq {p : List Ins} {i : Nat} {x : Ins} (hx : p[i]? = some x) (r : Nat) :
    rdAt p i r = if stay p i then x.reads r || (behind x i (rdAt p) r && !x.writes r) else behind x i (rdAt p) r := by
 have hi := (List.getElem?_eq_some_iff.1 hx).1
 have hst := stay_eq hx
 have e := (bk_stable p (p.length - i) p.length (by omega) (Nat.le_refl _) i (by omega)).2 r
 have hs := bk_stable p (p.length - i - 1) p.length (by omega) (Nat.le_refl _)
 have hbc : ∀ r, behind x i (bk p (p.length - i - 1)).read r = behind x i (rdAt p) r := fun r => behind_congr (fun j r hj => ((hs j (by omega)).2 r).symm) r
 have huc : useful p.length x i (bk p (p.length - i - 1)).stay (bk p (p.length - i - 1)).read = useful p.length x i (stay p) (rdAt p) :=
  useful_congr (fun j hj => ((hs j (by omega)).1).symm) (fun j r hj => ((hs j (by omega)).2 r).symm)
 show (bk p p.length).read i r = _
 rw [e, show p.length - i = (p.length - i - 1) + 1 by omega, bk, show p.length - (p.length - i - 1 + 1) = i by omega, hx]
 simp only [bkStep, if_true]
 rw [huc, hbc, ← hst]

theorem bk_far (p : List Ins) : ∀ k, ∀ j, p.length ≤ j → (bk p k).stay j = false ∧ ∀ r, (bk p k).read j r = false := by
 intro k
 induction k with
 | zero => intro j _; exact ⟨rfl, fun _ => rfl⟩
 | succ k ih =>
  intro j hj
  rw [bk]
  cases hx : p[p.length - (k + 1)]? with
  | none => exact ih j hj
  | some x =>
   have := (List.getElem?_eq_some_iff.1 hx).1
   simp only [bkStep]
   rw [if_neg (by omega)]
   refine ⟨(ih j hj).1, fun r => ?_⟩
   rw [if_neg (by omega)]
   exact (ih j hj).2 r

theorem stay_far {p : List Ins} {j : Nat} (h : p.length ≤ j) : stay p j = false := (bk_far p p.length j h).1
theorem rdAt_far {p : List Ins} {j r : Nat} (h : p.length ≤ j) : rdAt p j r = false := (bk_far p p.length j h).2 r

theorem stay_lt {p : List Ins} {j : Nat} (h : stay p j = true) : j < p.length := by
 apply Classical.byContradiction
 intro hn
 rw [stay_far (by omega)] at h; simp at h

/-- how many of the first j stay -/
def idx (p : List Ins) (j : Nat) : Nat := ((List.range j).filter (stay p)).length

theorem idx_succ (p : List Ins) (j : Nat) : idx p (j + 1) = idx p j + if stay p j then 1 else 0 := by
 unfold idx
 rw [List.range_succ, List.filter_append]
 cases hs : stay p j <;> simp [hs]

theorem idx_zero (p : List Ins) : idx p 0 = 0 := rfl

theorem idx_mono (p : List Ins) {i j : Nat} (h : i ≤ j) : idx p i ≤ idx p j := by
 induction j with
 | zero => have : i = 0 := by omega
           subst this; exact Nat.le_refl _
 | succ j ih =>
  by_cases hi : i = j + 1
  ·subst hi; exact Nat.le_refl _
  ·rw [idx_succ]; have := ih (by omega); omega

theorem someIn_idx (p : List Ins) {a b : Nat} (h : a ≤ b) : someIn (stay p) a b = decide (idx p a < idx p b) := by
 induction b with
 | zero => have : a = 0 := by omega
           subst this; simp [someIn, idx_zero]
 | succ b ih =>
  have e : someIn (stay p) a (b + 1) = (someIn (stay p) a b || (decide (a ≤ b) && stay p b)) := by
   unfold someIn; rw [List.range_succ, List.any_append]; simp
  by_cases hab : a = b + 1
  ·subst hab
   rw [e]
   have : someIn (stay p) (b + 1) b = false := by
    unfold someIn
    rw [List.any_eq_false]
    intro j hj
    have := List.mem_range.1 hj
    simp; omega
   rw [this]; simp; omega
  ·have hle : a ≤ b := by omega
   rw [e, ih hle, idx_succ]
   have := idx_mono p hle
   rw [Bool.eq_iff_iff]
   simp only [hle, Bool.or_eq_true, decide_eq_true_eq, decide_true, Bool.true_and]
   cases hs : stay p b <;> simp <;> omega

/-- an instruction that stays, as it stands then -/
def keptIns (p : List Ins) (i : Nat) (x : Ins) : Ins :=
 if x.skips then { x with n := ((idx p (i + 1 + x.n.toNat) - idx p (i + 1) : Nat) : Int) } else x

def dropFrom (p : List Ins) : Nat → List Ins → List Ins
 | _, [] => []
 | i, x :: l => if stay p i then keptIns p i x :: dropFrom p (i + 1) l else dropFrom p (i + 1) l

/-- P16.1 -/
def drop (p : List Ins) : List Ins := dropFrom p 0 p

theorem dropFrom_get (p : List Ins) : ∀ (l : List Ins) (i : Nat), (∀ k, l[k]? = p[i + k]?) → ∀ j x, i ≤ j → p[j]? = some x → stay p j = true →
    (dropFrom p i l)[idx p j - idx p i]? = some (keptIns p j x) := by
 intro l
 induction l with
 | nil =>
  intro i hl j x hij hx _
  have := hl (j - i)
  rw [show i + (j - i) = j by omega, hx] at this
  simp at this
 | cons y l ih =>
  intro i hl j x hij hx hs
  have hl' : ∀ k, l[k]? = p[i + 1 + k]? := by
   intro k
   have := hl (k + 1)
   rw [List.getElem?_cons_succ] at this
   rw [this]; congr 1; omega
  rw [dropFrom]
  by_cases hji : j = i
  ·subst hji
   have := hl 0
   simp at this
   rw [Nat.add_zero] at *
   rw [hx] at this; cases this
   rw [if_pos hs]; simp
  ·have hidx := idx_succ p i
   have hm := idx_mono p (show i + 1 ≤ j by omega)
   have := ih (i + 1) hl' j x (by omega) hx hs
   by_cases hsi : stay p i = true
   ·rw [if_pos hsi]
    rw [if_pos hsi] at hidx
    rw [show idx p j - idx p i = (idx p j - idx p (i + 1)) + 1 by omega, List.getElem?_cons_succ]
    exact this
   ·rw [if_neg hsi]
    rw [if_neg hsi] at hidx
    rw [show idx p j - idx p i = idx p j - idx p (i + 1) by omega]
    exact this

theorem dropFrom_len (p : List Ins) : ∀ (l : List Ins) (i : Nat), i + l.length = p.length → (dropFrom p i l).length + idx p i = idx p p.length := by
 intro l
 induction l with
 | nil => intro i h; simp at h; subst h; simp [dropFrom]
 | cons y l ih =>
  intro i h
  have := ih (i + 1) (by simp at h; omega)
  rw [idx_succ] at this
  rw [dropFrom]
  cases hs : stay p i <;> simp [hs] at this ⊢ <;> omega

theorem drop_length (p : List Ins) : (drop p).length = idx p p.length := by
 have := dropFrom_len p p 0 (by simp)
 rw [idx_zero] at this; unfold drop; omega

theorem idx_le (p : List Ins) (j : Nat) : idx p j ≤ j := by
 unfold idx
 have := List.length_filter_le (stay p) (List.range j)
 simpa using this

theorem drop_get {p : List Ins} {j : Nat} {x : Ins} (hx : p[j]? = some x) (hs : stay p j = true) : (drop p)[idx p j]? = some (keptIns p j x) := by
 have := dropFrom_get p p 0 (by intro k; simp) j x (by omega) hx hs
 rw [idx_zero] at this
 simpa [drop] using this

/-- each instruction of what stays is one that stays -/
theorem drop_inv {p : List Ins} {k : Nat} {y : Ins} (h : (drop p)[k]? = some y) : ∃ j x, p[j]? = some x ∧ stay p j = true ∧ idx p j = k ∧ y = keptIns p j x := by
 have hk := (List.getElem?_eq_some_iff.1 h).1
 rw [drop_length] at hk
 -- the least j with idx (j+1) = k+1
 have key : ∀ n, k < idx p n → ∃ j, j < n ∧ stay p j = true ∧ idx p j = k := by
  intro n
  induction n with
  | zero => intro h; rw [idx_zero] at h; omega
  | succ n ih =>
   intro hn
   by_cases hlt : k < idx p n
   ·obtain ⟨j, h1, h2⟩ := ih hlt; exact ⟨j, by omega, h2⟩
   ·rw [idx_succ] at hn
    cases hs : stay p n with
    | false => rw [hs] at hn; simp at hn; omega
    | true => rw [hs] at hn; simp at hn; exact ⟨n, by omega, hs, by omega⟩
 obtain ⟨j, hj, hs, he⟩ := key _ hk
 have hx : p[j]? = some p[j] := List.getElem?_eq_getElem hj
 refine ⟨j, p[j], hx, hs, he, ?_⟩
 have := drop_get hx hs
 rw [he, h] at this
 exact Option.some.inj this

end Go.Proofs.YtegjeincncccaaaGreatDoor.B
namespace Go.Proofs.YtegjeincncccaaaGreatDoor.B

theorem kept_op (p : List Ins) (i : Nat) (x : Ins) : (keptIns p i x).op = x.op := by unfold keptIns; split <;> rfl
theorem kept_a (p : List Ins) (i : Nat) (x : Ins) : (keptIns p i x).a = x.a := by unfold keptIns; split <;> rfl
theorem kept_b (p : List Ins) (i : Nat) (x : Ins) : (keptIns p i x).b = x.b := by unfold keptIns; split <;> rfl
theorem kept_imm (p : List Ins) (i : Nat) (x : Ins) : (keptIns p i x).imm = x.imm := by unfold keptIns; split <;> rfl
theorem kept_same {p : List Ins} {i : Nat} {x : Ins} (h : x.skips = false) : keptIns p i x = x := by unfold keptIns; rw [h]; rfl
theorem kept_n {p : List Ins} {i : Nat} {x : Ins} (h : x.skips = true) : (keptIns p i x).n = ((idx p (i + 1 + x.n.toNat) - idx p (i + 1) : Nat) : Int) := by unfold keptIns; rw [if_pos h]
theorem kept_reads (p : List Ins) (i : Nat) (x : Ins) (r : Nat) : (keptIns p i x).reads r = x.reads r := by unfold Ins.reads; rw [kept_op, kept_a, kept_b]
theorem kept_isW (p : List Ins) (i : Nat) (x : Ins) : (keptIns p i x).isW = x.isW := by unfold Ins.isW; rw [kept_op]
theorem kept_writes (p : List Ins) (i : Nat) (x : Ins) (r : Nat) : (keptIns p i x).writes r = x.writes r := by unfold Ins.writes; rw [kept_isW, kept_a]
theorem kept_next (p : List Ins) (i : Nat) (x : Ins) : (keptIns p i x).next = x.next := by unfold Ins.next; rw [kept_op]
theorem kept_skips (p : List Ins) (i : Nat) (x : Ins) : (keptIns p i x).skips = x.skips := by unfold Ins.skips; rw [kept_op]

theorem stay_reach {p : List Ins} {i : Nat} (h : stay p i = true) : Reach p i := by
 have hx := List.getElem?_eq_getElem (stay_lt h)
 rw [stay_eq hx, Bool.and_eq_true] at h
 exact (reachB_iff p i).1 h.1

theorem stay_useful {p : List Ins} {i : Nat} {x : Ins} (hx : p[i]? = some x) (h : stay p i = true) : useful p.length x i (stay p) (rdAt p) = true := by
 rw [stay_eq hx, Bool.and_eq_true] at h; exact h.2

theorem idle {p : List Ins} {i : Nat} {x : Ins} (hx : p[i]? = some x) (hr : Reach p i) (h : stay p i = false) : useful p.length x i (stay p) (rdAt p) = false := by
 rw [stay_eq hx, (reachB_iff p i).2 hr] at h; simpa using h

theorem idx_stay {p : List Ins} {i : Nat} (h : stay p i = true) : idx p (i + 1) = idx p i + 1 := by rw [idx_succ, h]; rfl
theorem idx_idle {p : List Ins} {i : Nat} (h : stay p i = false) : idx p (i + 1) = idx p i := by rw [idx_succ, h]; rfl

/-- an idle instruction to which a way comes: where it goes on, as many stay ahead -/
theorem idle_goes {p : List Ins} {i j : Nat} {x : Ins} (hx : p[i]? = some x) (hr : Reach p i) (h : stay p i = false) (hg : x.goes i j) : idx p j = idx p i := by
 have hu := idle hx hr h
 unfold useful at hu
 rcases hg with ⟨_, rfl⟩ | ⟨hs, rfl⟩
 ·exact idx_idle h
 ·have h0 : x.op ≠ 0 := by unfold Ins.skips at hs; simp at hs; omega
  rw [if_neg h0, if_pos hs, someIn_idx p (by omega)] at hu
  simp at hu
  have := idx_mono p (show i + 1 ≤ i + 1 + x.n.toNat by omega)
  have := idx_idle h
  omega

/-- .. and it writes nothing that is read behind it -/
theorem idle_writes {p : List Ins} {i j r : Nat} {x : Ins} (hx : p[i]? = some x) (hr : Reach p i) (h : stay p i = false) (hg : x.goes i j) (hrd : rdAt p j r = true) : x.writes r = false := by
 have hu := idle hx hr h
 unfold useful at hu
 rw [Bool.eq_false_iff]
 intro hw
 unfold Ins.writes at hw
 rw [Bool.and_eq_true] at hw
 have hop : x.op ≠ 0 ∧ x.op ≠ 18 ∧ x.op ≠ 19 := by have := hw.1; unfold Ins.isW at this; simp at this; omega
 have hs : x.skips = false := by unfold Ins.skips; simp; omega
 rw [if_neg hop.1, hs, hw.1] at hu
 simp at hu
 have hj : j = i + 1 := by
  rcases hg with ⟨_, h⟩ | ⟨h, _⟩
  ·exact h
  ·rw [hs] at h; simp at h
 subst hj
 have ha : x.a.toNat = r := by have := hw.2; simp at this; omega
 rw [ha] at hu
 unfold behind at hu
 have hn : x.next = true := by unfold Ins.next; simp; omega
 rw [hn, hrd] at hu
 simp at hu

theorem behind_goes {x : Ins} {i j r : Nat} {rd : Nat → Nat → Bool} (hg : x.goes i j) (h : rd j r = true) : behind x i rd r = true := by
 unfold behind
 rcases hg with ⟨hn, rfl⟩ | ⟨hs, rfl⟩
 ·rw [hn, h]; simp
 ·rw [hs, h]; simp

theorem behind_inv {x : Ins} {i r : Nat} {rd : Nat → Nat → Bool} (h : behind x i rd r = true) : ∃ j, x.goes i j ∧ rd j r = true := by
 unfold behind at h
 simp only [Bool.or_eq_true, Bool.and_eq_true] at h
 rcases h with ⟨h1, h2⟩ | ⟨h1, h2⟩
 ·exact ⟨_, .inl ⟨h1, rfl⟩, h2⟩
 ·exact ⟨_, .inr ⟨h1, rfl⟩, h2⟩

/-- what is read from where an instruction goes on is read from it on, unless it writes it -/
theorem rdAt_back {p : List Ins} {i j r : Nat} {x : Ins} (hx : p[i]? = some x) (hg : x.goes i j) (h : rdAt p j r = true) (hw : x.writes r = false) : rdAt p i r = true := by
 have hb := behind_goes hg h
 rw [rdAt_eq hx r, hb, hw]
 simp

/-- what stays goes on, in what stays, to where it goes on -/
theorem kept_goes {p : List Ins} {i j : Nat} {x : Ins} (h : stay p i = true) (hg : x.goes i j) : (keptIns p i x).goes (idx p i) (idx p j) := by
 unfold Ins.goes
 rw [kept_next, kept_skips]
 rcases hg with ⟨hn, rfl⟩ | ⟨hs, rfl⟩
 ·exact .inl ⟨hn, idx_stay h⟩
 ·right
  refine ⟨hs, ?_⟩
  rw [kept_n hs]
  have := idx_mono p (show i + 1 ≤ i + 1 + x.n.toNat by omega)
  have := idx_stay h
  simp; omega

theorem kept_goes_inv {p : List Ins} {i k : Nat} {x : Ins} (h : stay p i = true) (hg : (keptIns p i x).goes (idx p i) k) : ∃ j, x.goes i j ∧ idx p j = k := by
 unfold Ins.goes at hg
 rw [kept_next, kept_skips] at hg
 rcases hg with ⟨hn, rfl⟩ | ⟨hs, rfl⟩
 ·exact ⟨i + 1, .inl ⟨hn, rfl⟩, idx_stay h⟩
 ·refine ⟨i + 1 + x.n.toNat, .inr ⟨hs, rfl⟩, ?_⟩
  rw [kept_n hs]
  have := idx_mono p (show i + 1 ≤ i + 1 + x.n.toNat by omega)
  have := idx_stay h
  simp; omega

theorem kept_right {p : List Ins} {i : Nat} {x : Ins} (hl : p.length ≤ 16384) (hr : x.right = true) : (keptIns p i x).right = true := by
 by_cases hs : x.skips = true
 ·have hop := hs
  unfold Ins.skips at hop; simp at hop
  have hn := kept_n (p := p) (i := i) hs
  have h1 := idx_mono p (show i + 1 ≤ i + 1 + x.n.toNat by omega)
  have h2 : idx p (i + 1 + x.n.toNat) ≤ p.length := by
   by_cases h : i + 1 + x.n.toNat ≤ p.length
   ·exact Nat.le_trans (idx_le p _) h
   ·have : ∀ d, idx p (p.length + d) = idx p p.length := by
      intro d
      induction d with
      | zero => rfl
      | succ d ih => rw [show p.length + (d + 1) = p.length + d + 1 by omega, idx_idle (stay_far (by omega)), ih]
    rw [show i + 1 + x.n.toNat = p.length + (i + 1 + x.n.toNat - p.length) by omega, this]
    exact idx_le p _
  unfold Ins.right at *
  rw [kept_op, kept_a, kept_b, kept_imm, hn]
  simp only [Bool.and_eq_true, decide_eq_true_eq, Bool.or_eq_true, Bool.not_eq_true', decide_eq_false_iff_not] at hr ⊢
  obtain ⟨⟨⟨⟨⟨r0, r1⟩, r2⟩, r3⟩, r4⟩, r5⟩ := hr
  have e1 : loN x.op = 0 := by unfold loN; rw [if_neg (by omega)]
  have e2 : hiN x.op = 16384 := by
   unfold hiN; rw [if_neg (by omega), if_neg (by omega), if_neg (by omega), if_pos (by omega)]
  rw [e1, e2]
  refine ⟨⟨⟨⟨⟨r0, r1⟩, r2⟩, ?_⟩, r4⟩, .inl (by omega)⟩
  omega
 ·rw [kept_same (by simpa using hs)]; exact hr

/-- along what is idle a way goes on to what stays next -/
theorem advance {p : List Ins} {r : Nat} : ∀ n j j0, j0 - j ≤ n → j ≤ j0 → Reach p j → idx p j = idx p j0 → stay p j0 = true → (rdAt p j r = true → May p r j) →
    (rdAt p j0 r = true → May p r j0) := by
 intro n
 induction n with
 | zero =>
  intro j j0 h hle _ _ _ hm
  have : j = j0 := by omega
  subst this; exact hm
 | succ n ih =>
  intro j j0 h hle hr hidx hs hm
  by_cases hj : j = j0
  ·subst hj; exact hm
  ·have hj0 := stay_lt hs
   have hx : p[j]? = some p[j] := List.getElem?_eq_getElem (by omega)
   generalize p[j] = x at hx
   have hns : stay p j = false := by
    rw [Bool.eq_false_iff]
    intro h'
    have := idx_stay h'
    have := idx_mono p (show j + 1 ≤ j0 by omega)
    omega
   -- where it goes on
   have hstep : ∃ j', x.goes j j' ∧ j' ≤ j0 := by
    by_cases h0 : x.op = 0
    ·exfalso
     have hu := idle hx hr hns
     unfold useful at hu
     rw [if_pos h0, someIn_idx p (by omega)] at hu
     simp at hu
     have := idx_mono p (show j0 + 1 ≤ p.length by omega)
     have := idx_stay hs
     have := idx_idle hns
     omega
    ·by_cases h18 : x.op = 18
     ·have hsk : x.skips = true := by unfold Ins.skips; simp [h18]
      refine ⟨j + 1 + x.n.toNat, .inr ⟨hsk, rfl⟩, ?_⟩
      apply Classical.byContradiction
      intro hgt
      have he := idle_goes hx hr hns (.inr ⟨hsk, rfl⟩)
      have := idx_mono p (show j0 + 1 ≤ j + 1 + x.n.toNat by omega)
      have := idx_stay hs
      omega
     ·exact ⟨j + 1, .inl ⟨by unfold Ins.next; simp [h0, h18], rfl⟩, by omega⟩
   obtain ⟨j', hg, hle'⟩ := hstep
   have hlt := Ins.goes_lt hg
   refine ih j' j0 (by omega) hle' (.step hr hx hg) (by rw [idle_goes hx hr hns hg]; exact hidx) hs (fun hrd => ?_)
   have hw := idle_writes hx hr hns hg hrd
   exact .step (hm (rdAt_back hx hg hrd hw)) hx hw hg

theorem idx_lt_inv {p : List Ins} {i j : Nat} (h : idx p i < idx p j) : i < j := by
 apply Classical.byContradiction
 intro hn
 have := idx_mono p (show j ≤ i by omega)
 omega

/-- a way through what stays on which nothing writes r: a way through the program -/
theorem drop_may {p : List Ins} {size slots : Int} (hp : MayRun p size slots) {r k : Nat} (h : May (drop p) r k) : ∃ j, j ≤ p.length ∧ Reach p j ∧ idx p j = k ∧ (rdAt p j r = true → May p r j) := by
 induction h with
 | start => exact ⟨0, by omega, .start, rfl, fun _ => .start⟩
 | @step k k' y hm hy hw hg ih =>
  obtain ⟨j, hjl, hr, hidx, hmay⟩ := ih
  obtain ⟨j0, x, hx, hs, hidx0, rfl⟩ := drop_inv hy
  have hle : j ≤ j0 := by
   apply Classical.byContradiction
   intro hn
   have := idx_mono p (show j0 + 1 ≤ j by omega)
   have := idx_stay hs
   omega
  have h0 := advance _ j j0 (Nat.le_refl _) hle hr (by omega) hs hmay
  rw [← hidx0] at hg
  obtain ⟨j', hg', he⟩ := kept_goes_inv hs hg
  rw [kept_writes] at hw
  refine ⟨j', goes_le hp.ok hx hg', .step (stay_reach hs) hx hg', he, fun hrd => ?_⟩
  exact .step (h0 (rdAt_back hx hg' hrd hw)) hx hw hg'

/-- P16.2: what stays may be run -/
theorem MayRun.drop {p : List Ins} {size slots : Int} (hp : MayRun p size slots) : MayRun (drop p) size slots := by
 have hlen := drop_length p
 have hle := idx_le p p.length
 refine ⟨hp.hsize, hp.hslots, by have := hp.len; omega, ⟨fun k y hy => ?_, fun k y hy => ?_⟩, fun k y hy r hr hm => ?_⟩
 ·obtain ⟨j, x, hx, hs, _, rfl⟩ := drop_inv hy
  exact kept_right hp.len (hp.ok.right j x hx)
 ·obtain ⟨j, x, hx, hs, hidx, rfl⟩ := drop_inv hy
  have ht := hp.ok.touch j x hx
  by_cases hsk : x.skips = true
  ·have hop := hsk
   unfold Ins.skips at hop; simp at hop
   have hle := goes_le hp.ok hx (.inr ⟨hsk, rfl⟩ : x.goes j (j + 1 + x.n.toNat))
   have h1 := idx_mono p hle
   have h2 := idx_mono p (show j + 1 ≤ j + 1 + x.n.toNat by omega)
   have h3 := idx_stay hs
   unfold Ins.touch
   rw [kept_op, kept_n hsk, if_neg (by omega), if_neg (by omega), if_pos (by omega), if_neg (by omega)]
  ·rw [kept_same (by simpa using hsk)]
   unfold Ins.skips at hsk; simp at hsk
   unfold Ins.touch at ht ⊢
   by_cases h1 : 9 ≤ x.op ∧ x.op ≤ 13
   ·rw [if_pos h1] at ht ⊢; exact ht
   ·rw [if_neg h1] at ht ⊢
    by_cases h2 : 15 ≤ x.op ∧ x.op ≤ 17
    ·rw [if_pos h2] at ht ⊢; exact ht
    ·rw [if_neg h2, if_neg (by omega)]
 ·obtain ⟨j0, x, hx, hs, hidx0, rfl⟩ := drop_inv hy
  obtain ⟨j, hjl, hreach, hidx, hmay⟩ := drop_may hp hm
  have hle : j ≤ j0 := by
   apply Classical.byContradiction
   intro hn
   have := idx_mono p (show j0 + 1 ≤ j by omega)
   have := idx_stay hs
   omega
  rw [kept_reads] at hr
  have hrd : rdAt p j0 r = true := by rw [rdAt_eq hx r, hs, hr]; simp
  have h0 := advance _ j j0 (Nat.le_refl _) hle hreach (by omega) hs hmay hrd
  exact hp.read j0 x hx r hr h0

structure Seen (s t : St) : Prop where
 pay : s.pay = t.pay
 out : s.out = t.out
 has : s.has = t.has

theorem exec_kept {p : List Ins} {i : Nat} {x : Ins} {inp : List Nat} {s t : St} (hr : x.right = true) (hs : stay p i = true) (h : Seen s t) (hreg : ∀ r, x.reads r = true → s.r r = t.r r) :
    (∃ d d' s' t', x.exec inp s = .go d s' ∧ (keptIns p i x).exec inp t = .go d' t' ∧ idx p i + 1 + d' = idx p (i + 1 + d) ∧ Seen s' t' ∧ ∀ r, (x.writes r = true ∨ s.r r = t.r r) → s'.r r = t'.r r) ∨
    (x.exec inp s = .halt ∧ (keptIns p i x).exec inp t = .halt) ∨ (∃ k, x.exec inp s = .fail k ∧ (keptIns p i x).exec inp t = .fail k) := by
 have hi := idx_stay hs
 have hi0 : idx p (i + 1 + 0) = idx p i + 1 := hi
 by_cases hsk : x.skips = true
 ·have hop := hsk
  unfold Ins.skips at hop; simp at hop
  have hw : x.isW = false := by unfold Ins.isW; simp; omega
  have hl : x.lays = false := by unfold Ins.lays; simp; omega
  have hn : ∀ r, x.writes r = false := by intro r; unfold Ins.writes; rw [hw]; rfl
  have hkn := kept_n (p := p) (i := i) hsk
  have hm := idx_mono p (show i + 1 ≤ i + 1 + x.n.toNat by omega)
  have same : ∀ r, (x.writes r = true ∨ s.r r = t.r r) → s.r r = t.r r := by
   intro r hrr
   rcases hrr with h1 | h1
   ·rw [hn] at h1; simp at h1
   ·exact h1
  left
  rcases hop with h18 | h19
  ·refine ⟨x.n.toNat, (keptIns p i x).n.toNat, s, t, ?_, ?_, ?_, h, same⟩
   ·unfold Ins.exec; rw [hw, hl, if_neg (by simp), if_neg (by simp), if_neg (by omega), if_neg (by omega), if_neg (by omega), if_pos h18]
   ·unfold Ins.exec; rw [kept_isW, kept_op]
    have : (keptIns p i x).lays = false := by unfold Ins.lays; rw [kept_op]; simp; omega
    rw [hw, this, if_neg (by simp), if_neg (by simp), if_neg (by omega), if_neg (by omega), if_neg (by omega), if_pos h18]
   ·rw [hkn]; simp; omega
  ·have hra := hreg _ (reads_a hr (by omega))
   refine ⟨(if s.r x.a.toNat = x.imm.toNat then 0 else x.n.toNat), (if s.r x.a.toNat = x.imm.toNat then 0 else (keptIns p i x).n.toNat), s, t, ?_, ?_, ?_, h, same⟩
   ·unfold Ins.exec; rw [hw, hl, if_neg (by simp), if_neg (by simp), if_neg (by omega), if_neg (by omega), if_neg (by omega), if_neg (by omega), if_pos h19]
   ·unfold Ins.exec; rw [kept_isW, kept_op, kept_a, kept_imm, ← hra]
    have : (keptIns p i x).lays = false := by unfold Ins.lays; rw [kept_op]; simp; omega
    rw [hw, this, if_neg (by simp), if_neg (by simp), if_neg (by omega), if_neg (by omega), if_neg (by omega), if_neg (by omega), if_pos h19]
   ·split
    ·omega
    ·rw [hkn]; simp; omega
 ·rw [kept_same (by simpa using hsk)]
  unfold Ins.skips at hsk; simp at hsk
  unfold Ins.exec
  by_cases hw : x.isW = true
  ·rw [if_pos hw, if_pos hw]
   refine .inl ⟨0, 0, _, _, rfl, rfl, by omega, ⟨h.pay, h.out, h.has⟩, fun r hrr => ?_⟩
   simp only [St.set]
   split
   ·exact val_congr hr h.pay hreg
   ·rename_i hne
    rcases hrr with h1 | h1
    ·unfold Ins.writes at h1; simp at h1; omega
    ·exact h1
  ·rw [if_neg hw, if_neg hw]
   have same : ∀ r, (x.writes r = true ∨ s.r r = t.r r) → s.r r = t.r r := by
    intro r hrr
    rcases hrr with h1 | h1
    ·unfold Ins.writes at h1; simp at h1; exact absurd h1.1 hw
    ·exact h1
   by_cases hl : x.lays = true
   ·rw [if_pos hl, if_pos hl, lay_congr hr h.pay hreg hl]
    exact .inl ⟨0, 0, _, _, rfl, rfl, by omega, ⟨rfl, h.out, h.has⟩, same⟩
   ·rw [if_neg hl, if_neg hl]
    by_cases h0 : x.op = 0
    ·rw [if_pos h0, if_pos h0]; exact .inr (.inl ⟨rfl, rfl⟩)
    ·rw [if_neg h0, if_neg h0]
     by_cases h16 : x.op = 16
     ·rw [if_pos h16, if_pos h16, hreg _ (reads_a hr (by omega)), h.out, h.has]
      exact .inl ⟨0, 0, _, _, rfl, rfl, by omega, ⟨h.pay, rfl, rfl⟩, same⟩
     ·rw [if_neg h16, if_neg h16]
      by_cases h17 : x.op = 17
      ·rw [if_pos h17, if_pos h17, hreg _ (reads_a hr (by omega))]
       split
       ·exact .inl ⟨0, 0, _, _, rfl, rfl, by omega, h, same⟩
       ·exact .inr (.inr ⟨_, rfl, rfl⟩)
      ·rw [if_neg h17, if_neg h17, if_neg (by omega), if_neg (by omega), if_neg (by omega), if_neg (by omega)]
       exact .inl ⟨0, 0, _, _, rfl, rfl, by omega, h, same⟩

/-- P16.2 -/
theorem drop_run {p : List Ins} {size slots : Int} (hp : MayRun p size slots) {inp : List Nat} :
    ∀ pc, ∀ s t, Reach p pc → pc ≤ p.length → Seen s t → (∀ r, rdAt p pc r = true → s.r r = t.r r) →
     (run p inp pc s).failed = (run (drop p) inp (idx p pc) t).failed ∧ (run (drop p) inp (idx p pc) t).steps ≤ (run p inp pc s).steps ∧ Seen (run p inp pc s).st (run (drop p) inp (idx p pc) t).st := by
 refine pc_ind (p := p) (P := fun pc => ∀ s t, Reach p pc → pc ≤ p.length → Seen s t → (∀ r, rdAt p pc r = true → s.r r = t.r r) →
     (run p inp pc s).failed = (run (drop p) inp (idx p pc) t).failed ∧ (run (drop p) inp (idx p pc) t).steps ≤ (run p inp pc s).steps ∧ Seen (run p inp pc s).st (run (drop p) inp (idx p pc) t).st) ?_ ?_
 ·intro pc h s t _ hle hst _
  have : pc = p.length := by omega
  subst this
  rw [run_end (Nat.le_refl _), run_end (by rw [drop_length]; exact Nat.le_refl _)]
  exact ⟨rfl, Nat.le_refl _, hst⟩
 ·intro pc x hx ih s t hr hle hst hreg
  have hright := hp.ok.right pc x hx
  by_cases hs : stay p pc = true
  ·have hy := drop_get hx hs
   have hrd : ∀ r, x.reads r = true → s.r r = t.r r := fun r h1 => hreg r (by rw [rdAt_eq hx r, hs, h1]; simp)
   rcases exec_kept (inp := inp) hright hs hst hrd with ⟨d, d', s', t', e1, e2, e3, hst', hreg'⟩ | ⟨e1, e2⟩ | ⟨k, e1, e2⟩
   ·rw [run_go hx e1, run_go hy e2, e3]
    have hg := exec_goes (i := pc) hright e1
    obtain ⟨h1, h2, h3⟩ := ih (pc + 1 + d) (by omega) s' t' (.step hr hx hg) (goes_le hp.ok hx hg) hst' (fun r hrd' => by
     apply hreg'
     by_cases hw : x.writes r = true
     ·exact .inl hw
     ·exact .inr (hreg r (rdAt_back hx hg hrd' (by simpa using hw))))
    simp only
    exact ⟨h1, by omega, h3⟩
   ·rw [run_halt hx e1, run_halt hy e2]; exact ⟨rfl, Nat.le_refl _, hst⟩
   ·rw [run_fail hx e1, run_fail hy e2]; exact ⟨rfl, Nat.le_refl _, hst⟩
  ·have hs' : stay p pc = false := by simpa using hs
   have hu := idle hx hr hs'
   cases e1 : x.exec inp s with
   | halt =>
    have h0 : x.op = 0 := by
     unfold Ins.exec at e1
     repeat' (split at e1)
     all_goals (first | assumption | cases e1)
    unfold useful at hu
    have hlt := (List.getElem?_eq_some_iff.1 hx).1
    rw [if_pos h0, someIn_idx p (by omega)] at hu
    simp at hu
    have := idx_mono p (show pc + 1 ≤ p.length by omega)
    have := idx_idle hs'
    rw [run_halt hx e1, run_end (by rw [drop_length]; omega)]
    exact ⟨rfl, by simp, hst⟩
   | fail k =>
    exfalso
    have h17 : x.op = 17 := by
     unfold Ins.exec at e1
     repeat' (split at e1)
     all_goals (first | assumption | cases e1)
    unfold useful at hu
    have e2 : x.skips = false := by unfold Ins.skips; simp; omega
    have e3 : x.isW = false := by unfold Ins.isW; simp; omega
    rw [if_neg (by omega), e2, e3] at hu
    simp at hu
   | go d s' =>
    have hg := exec_goes (i := pc) hright e1
    have he := idle_goes hx hr hs' hg
    rw [run_go hx e1]
    -- an idle instruction turns registers alone
    have hkey : Seen s' t ∧ ∀ r, x.writes r = false → s'.r r = s.r r := by
     have hact : x.lays = false ∧ x.op ≠ 16 := by
      have hne : ¬ (x.isW = false ∧ x.skips = false ∧ x.op ≠ 0) := by
       rintro ⟨h1, h2, h3⟩
       unfold useful at hu
       rw [if_neg h3, h2, h1] at hu; simp at hu
      constructor
      ·rw [Bool.eq_false_iff]; intro hl
       apply hne
       unfold Ins.lays at hl; simp at hl
       unfold Ins.isW Ins.skips; simp; omega
      ·intro h16
       apply hne
       unfold Ins.isW Ins.skips; simp; omega
     unfold Ins.exec at e1
     by_cases hw : x.isW = true
     ·rw [if_pos hw] at e1; cases e1
      refine ⟨⟨hst.pay, hst.out, hst.has⟩, fun r hwr => ?_⟩
      simp only [St.set]
      rw [if_neg]
      intro h'
      unfold Ins.writes at hwr
      have hb := right_bounds hright
      rw [hw] at hwr; simp at hwr; omega
     ·rw [if_neg hw, hact.1, if_neg (by simp)] at e1
      repeat' (split at e1)
      all_goals (first | (cases e1; done) | (exfalso; exact hact.2 (by assumption)) | (cases e1; exact ⟨hst, fun _ _ => rfl⟩))
    obtain ⟨h1, h2, h3⟩ := ih (pc + 1 + d) (by omega) s' t (.step hr hx hg) (goes_le hp.ok hx hg) hkey.1 (fun r hrd => by
     have hw := idle_writes hx hr hs' hg hrd
     rw [hkey.2 r hw]
     exact hreg r (rdAt_back hx hg hrd hw))
    rw [he] at h1 h2 h3
    simp only
    exact ⟨h1, by omega, h3⟩

end Go.Proofs.YtegjeincncccaaaGreatDoor.B
namespace Go.Proofs.YtegjeincncccaaaGreatDoor.B

theorem someIn_of {st : Nat → Bool} {a b j : Nat} (h1 : a ≤ j) (h2 : j < b) (h : st j = true) : someIn st a b = true := by
 unfold someIn
 rw [List.any_eq_true]
 exact ⟨j, List.mem_range.2 h2, by simp [h1, h]⟩

/-- a way to an instruction is, in what stays, one to its place there -/
theorem drop_reach {p : List Ins} {j : Nat} (h : Reach p j) : Reach (drop p) (idx p j) := by
 induction h with
 | start => exact .start
 | @step i j x hr hx hg ih =>
  by_cases hs : stay p i = true
  ·exact .step ih (drop_get hx hs) (kept_goes hs hg)
  ·rw [idle_goes hx hr (by simpa using hs) hg]; exact ih

/-- P16.3: nothing more can go -/
theorem drop_stay {p : List Ins} {size slots : Int} (hp : MayRun p size slots) :
    ∀ j, j ≤ p.length → Reach p j → (stay p j = true → stay (drop p) (idx p j) = true) ∧ ∀ r, rdAt p j r = true → rdAt (drop p) (idx p j) r = true := by
 refine pc_ind (p := p) (P := fun j => j ≤ p.length → Reach p j → (stay p j = true → stay (drop p) (idx p j) = true) ∧ ∀ r, rdAt p j r = true → rdAt (drop p) (idx p j) r = true) ?_ ?_
 ·intro j h _ _
  exact ⟨fun hs => by rw [stay_far h] at hs; simp at hs, fun r hr => by rw [rdAt_far h] at hr; simp at hr⟩
 ·intro j x hx ih hle hr
  by_cases hs : stay p j = true
  ·have hy := drop_get hx hs
   -- whatever stays behind it stays
   have later : ∀ k, idx p j < k → k < idx p p.length → stay (drop p) k = true := by
    intro k h1 h2
    have hk : (drop p)[k]? = some ((drop p)[k]'(by rw [drop_length]; exact h2)) := List.getElem?_eq_getElem _
    obtain ⟨j', x', hx', hs', hi', _⟩ := drop_inv hk
    have hlt : j < j' := idx_lt_inv (p := p) (by omega)
    rw [← hi']
    exact (ih j' hlt (by have := stay_lt hs'; omega) (stay_reach hs')).1 hs'
   have hu := stay_useful hx hs
   have hbeh : ∀ r, behind x j (rdAt p) r = true → behind (keptIns p j x) (idx p j) (rdAt (drop p)) r = true := by
    intro r hb
    obtain ⟨j', hg, hrd⟩ := behind_inv hb
    have hlt := Ins.goes_lt hg
    have := (ih j' hlt (goes_le hp.ok hx hg) (.step hr hx hg)).2 r hrd
    exact behind_goes (kept_goes hs hg) this
   have hst : stay (drop p) (idx p j) = true := by
    rw [stay_eq hy, (reachB_iff (drop p) _).2 (drop_reach hr)]
    simp only [Bool.true_and]
    unfold useful at hu ⊢
    rw [kept_op, kept_skips, kept_isW, kept_a]
    have hi := idx_stay hs
    by_cases h0 : x.op = 0
    ·have hlt := (List.getElem?_eq_some_iff.1 hx).1
     rw [if_pos h0, someIn_idx p (by omega)] at hu
     simp at hu
     rw [if_pos h0, drop_length]
     exact someIn_of (j := idx p j + 1) (Nat.le_refl _) (by omega) (later _ (by omega) (by omega))
    ·rw [if_neg h0] at hu ⊢
     by_cases hsk : x.skips = true
     ·rw [if_pos hsk, someIn_idx p (by omega)] at hu
      simp at hu
      rw [if_pos hsk, kept_n hsk]
      have hm := idx_mono p (goes_le hp.ok hx (.inr ⟨hsk, rfl⟩ : x.goes j (j + 1 + x.n.toNat)))
      exact someIn_of (j := idx p j + 1) (Nat.le_refl _) (by simp; omega) (later _ (by omega) (by omega))
     ·rw [if_neg hsk] at hu ⊢
      cases hw : x.isW with
      | false => simp
      | true =>
       rw [hw] at hu
       simp at hu ⊢
       exact hbeh _ hu
   refine ⟨fun _ => hst, fun r hrd => ?_⟩
   rw [rdAt_eq hx r, if_pos hs] at hrd
   rw [rdAt_eq hy r, if_pos hst, kept_reads, kept_writes]
   simp only [Bool.or_eq_true, Bool.and_eq_true] at hrd ⊢
   rcases hrd with h | ⟨h1, h2⟩
   ·exact .inl h
   ·exact .inr ⟨hbeh r h1, h2⟩
  ·have hs' : stay p j = false := by simpa using hs
   refine ⟨fun h => absurd h hs, fun r hrd => ?_⟩
   rw [rdAt_eq hx r, if_neg hs] at hrd
   obtain ⟨j', hg, hrd'⟩ := behind_inv hrd
   have hlt := Ins.goes_lt hg
   have := (ih j' hlt (goes_le hp.ok hx hg) (.step hr hx hg)).2 r hrd'
   rw [idle_goes hx hr hs' hg] at this
   exact this

theorem drop_all {p : List Ins} {size slots : Int} (hp : MayRun p size slots) {k : Nat} (hk : k < (drop p).length) : stay (drop p) k = true := by
 obtain ⟨j, x, hx, hs, hi, _⟩ := drop_inv (List.getElem?_eq_getElem hk)
 rw [← hi]
 exact (drop_stay hp j (by have := stay_lt hs; omega) (stay_reach hs)).1 hs

theorem idx_all {q : List Ins} (h : ∀ k, k < q.length → stay q k = true) : ∀ k, k ≤ q.length → idx q k = k := by
 intro k
 induction k with
 | zero => intro _; rfl
 | succ k ih => intro hk; rw [idx_stay (h k (by omega)), ih (by omega)]

/-- a program all of whose instructions stay -/
theorem drop_same {q : List Ins} {size slots : Int} (hq : MayRun q size slots) (h : ∀ k, k < q.length → stay q k = true) : drop q = q := by
 have hidx := idx_all h
 apply List.ext_getElem?
 intro k
 by_cases hk : k < q.length
 ·have hx := List.getElem?_eq_getElem hk
  have := drop_get hx (h k hk)
  rw [hidx k (by omega)] at this
  rw [this, hx]
  congr 1
  generalize q[k] = x at hx
  by_cases hsk : x.skips = true
  ·have hle := goes_le hq.ok hx (.inr ⟨hsk, rfl⟩ : x.goes k (k + 1 + x.n.toNat))
   have hb := right_bounds (hq.ok.right k x hx)
   unfold keptIns
   rw [if_pos hsk, hidx _ hle, hidx _ (by omega)]
   cases x
   simp only [Ins.mk.injEq, true_and, and_true]
   simp only at hb
   omega
  ·exact kept_same (by simpa using hsk)
 ·rw [List.getElem?_eq_none (l := drop q) (by rw [drop_length, hidx _ (Nat.le_refl _)]; omega), List.getElem?_eq_none (l := q) (by omega)]

/-- P16.3 -/
theorem drop_drop {p : List Ins} {size slots : Int} (hp : MayRun p size slots) : drop (drop p) = drop p :=
 drop_same hp.drop (fun _ hk => drop_all hp hk)

/-- what is read from a place on is read by one from there on -/
theorem rdAt_some {p : List Ins} {r : Nat} : ∀ j, rdAt p j r = true → ∃ k x, j ≤ k ∧ p[k]? = some x ∧ x.reads r = true := by
 refine pc_ind (p := p) (P := fun j => rdAt p j r = true → ∃ k x, j ≤ k ∧ p[k]? = some x ∧ x.reads r = true) ?_ ?_
 ·intro j h hr; rw [rdAt_far h] at hr; simp at hr
 ·intro j x hx ih hr
  rw [rdAt_eq hx r] at hr
  have hb : x.reads r = true ∨ behind x j (rdAt p) r = true := by
   split at hr
   ·simp only [Bool.or_eq_true, Bool.and_eq_true] at hr
    rcases hr with h | h
    ·exact .inl h
    ·exact .inr h.1
   ·exact .inr hr
  rcases hb with h | h
  ·exact ⟨j, x, Nat.le_refl _, hx, h⟩
  ·obtain ⟨j', hg, hrd⟩ := behind_inv h
   have hlt := Ins.goes_lt hg
   obtain ⟨k, y, h1, h2, h3⟩ := ih j' hlt hrd
   exact ⟨k, y, by omega, h2, h3⟩

/-- P16.3: what writes stands ahead of what reads -/
theorem all_ahead {q : List Ins} {k : Nat} {x : Ins} (hx : q[k]? = some x) (h : stay q k = true) (hw : x.isW = true) : ∃ j y, k < j ∧ q[j]? = some y ∧ y.reads x.a.toNat = true := by
 have hu := stay_useful hx h
 unfold useful at hu
 have h1 : x.op ≠ 0 := by unfold Ins.isW at hw; simp at hw; omega
 have h2 : x.skips = false := by unfold Ins.isW at hw; simp at hw; unfold Ins.skips; simp; omega
 rw [if_neg h1, h2, hw] at hu
 simp at hu
 obtain ⟨j', hg, hrd⟩ := behind_inv hu
 have hlt := Ins.goes_lt hg
 obtain ⟨j, y, h3, h4, h5⟩ := rdAt_some j' hrd
 exact ⟨j, y, by omega, h4, h5⟩

theorem all_skips {q : List Ins} {k : Nat} {x : Ins} (hx : q[k]? = some x) (h : stay q k = true) (hs : x.skips = true) : 1 ≤ x.n := by
 have hu := stay_useful hx h
 unfold useful at hu
 have h1 : x.op ≠ 0 := by unfold Ins.skips at hs; simp at hs; omega
 rw [if_neg h1, if_pos hs, someIn_idx q (by omega)] at hu
 simp at hu
 have := idx_lt_inv hu
 omega

/-- P16.3: the last one does something -/
theorem all_last {q : List Ins} {size slots : Int} (hq : MayRun q size slots) {x : Ins} (hx : q[q.length - 1]? = some x) (h : stay q (q.length - 1) = true) :
    (11 ≤ x.op ∧ x.op ≤ 13) ∨ x.op = 16 ∨ x.op = 17 := by
 have hlt := (List.getElem?_eq_some_iff.1 hx).1
 have hb := right_bounds (hq.ok.right _ x hx)
 have hu := stay_useful hx h
 unfold useful at hu
 by_cases h0 : x.op = 0
 ·rw [if_pos h0, someIn_idx q (by omega)] at hu
  simp at hu
  have := idx_lt_inv hu
  omega
 ·rw [if_neg h0] at hu
  by_cases hs : x.skips = true
  ·have := all_skips hx h hs
   have := goes_le hq.ok hx (.inr ⟨hs, rfl⟩ : x.goes _ (q.length - 1 + 1 + x.n.toNat))
   omega
  ·rw [if_neg hs] at hu
   by_cases hw : x.isW = true
   ·rw [hw] at hu
    simp at hu
    obtain ⟨j', hg, hrd⟩ := behind_inv hu
    have hlt := Ins.goes_lt hg
    rw [rdAt_far (by omega)] at hrd; simp at hrd
   ·unfold Ins.isW at hw; unfold Ins.skips at hs
    simp at hw hs
    omega

/-- nothing is read ahead of being written -/
theorem rdAt_may {p : List Ins} {size slots : Int} (hp : MayRun p size slots) {r : Nat} : ∀ j, May p r j → rdAt p j r = false := by
 refine pc_ind (p := p) (P := fun j => May p r j → rdAt p j r = false) ?_ ?_
 ·intro j h _; exact rdAt_far h
 ·intro j x hx ih hm
  rw [Bool.eq_false_iff]
  intro hrd
  rw [rdAt_eq hx r] at hrd
  have hnr : x.reads r = false := by rw [Bool.eq_false_iff]; intro h; exact hp.read j x hx r h hm
  have key : behind x j (rdAt p) r = true → x.writes r = false → False := by
   intro hb hw
   obtain ⟨j', hg, hrd'⟩ := behind_inv hb
   have := ih j' (Ins.goes_lt hg) (.step hm hx hw hg)
   rw [this] at hrd'; simp at hrd'
  by_cases hs : stay p j = true
  ·rw [if_pos hs, hnr] at hrd
   simp at hrd
   exact key hrd.1 hrd.2
  ·rw [if_neg hs] at hrd
   obtain ⟨j', hg, hrd'⟩ := behind_inv hrd
   exact key hrd (idle_writes hx hm.reach (by simpa using hs) hg hrd')

/-- instructions that write registers alone, ahead of a program -/
structure Idle (l : List Ins) : Prop where
 w : ∀ x ∈ l, x.isW = true

theorem idle_next {l : List Ins} (h : Idle l) {i : Nat} {x : Ins} (hx : l[i]? = some x) : x.next = true ∧ x.skips = false := by
 have := h.w x (List.mem_of_getElem? hx)
 unfold Ins.isW at this; simp at this
 unfold Ins.next Ins.skips; simp; omega

theorem ahead_reach {l p : List Ins} (h : Idle l) : ∀ j, Reach (l ++ p) (l.length + j) ↔ Reach p j := by
 have start : ∀ i, i ≤ l.length → Reach (l ++ p) i := by
  intro i
  induction i with
  | zero => intro _; exact .start
  | succ i ih =>
   intro hi
   have hx : l[i]? = some l[i] := List.getElem?_eq_getElem (by omega)
   have hx' : (l ++ p)[i]? = some l[i] := by rw [List.getElem?_append_left (by omega)]; exact hx
   exact .step (ih (by omega)) hx' (.inl ⟨(idle_next h hx).1, rfl⟩)
 intro j
 constructor
 ·intro hr
  have key : ∀ k, Reach (l ++ p) k → ∀ j, k = l.length + j → Reach p j := by
   intro k hk
   induction hk with
   | start => intro j hj; have : j = 0 := by omega
              subst this; exact .start
   | @step i k x hr hx hg ih =>
    intro j hj
    by_cases hi : i < l.length
    ·have hx' : l[i]? = some x := by rw [List.getElem?_append_left hi] at hx; exact hx
     have hn := idle_next h hx'
     rcases hg with ⟨_, rfl⟩ | ⟨hs, _⟩
     ·have : j = 0 := by omega
      subst this; exact .start
     ·rw [hn.2] at hs; simp at hs
    ·have hx' : p[i - l.length]? = some x := by rw [List.getElem?_append_right (by omega)] at hx; exact hx
     refine .step (ih (i - l.length) (by omega)) hx' ?_
     have e1 : i = l.length + (i - l.length) := by omega
     rw [e1, hj] at hg
     exact goes_shift.1 hg
  exact key _ hr j rfl
 ·intro hr
  induction hr with
  | start => exact start _ (by omega)
  | @step i j x hr hx hg ih =>
   refine .step ih (x := x) ?_ (goes_shift.2 hg)
   rw [List.getElem?_append_right (by omega)]; simpa using hx

theorem ahead_stay {l p : List Ins} (h : Idle l) : ∀ j, (stay (l ++ p) (l.length + j) = stay p j) ∧ ∀ r, rdAt (l ++ p) (l.length + j) r = rdAt p j r := by
 refine pc_ind (p := p) (P := fun j => (stay (l ++ p) (l.length + j) = stay p j) ∧ ∀ r, rdAt (l ++ p) (l.length + j) r = rdAt p j r) ?_ ?_
 ·intro j hj
  exact ⟨by rw [stay_far hj, stay_far (by simp; omega)], fun r => by rw [rdAt_far hj, rdAt_far (by simp; omega)]⟩
 ·intro j x hx ih
  have hx' : (l ++ p)[l.length + j]? = some x := by rw [List.getElem?_append_right (by omega)]; simpa using hx
  have hb : ∀ r, behind x (l.length + j) (rdAt (l ++ p)) r = behind x j (rdAt p) r := by
   intro r
   unfold behind
   rw [show l.length + j + 1 = l.length + (j + 1) by omega, show l.length + (j + 1) + x.n.toNat = l.length + (j + 1 + x.n.toNat) by omega, (ih (j + 1) (by omega)).2, (ih (j + 1 + x.n.toNat) (by omega)).2]
  have hsome : ∀ b, someIn (stay (l ++ p)) (l.length + j + 1) (l.length + b) = someIn (stay p) (j + 1) b := by
   intro b
   rw [Bool.eq_iff_iff]
   unfold someIn
   simp only [List.any_eq_true, List.mem_range, Bool.and_eq_true, decide_eq_true_eq]
   constructor
   ·rintro ⟨k, h1, h2, h3⟩
    refine ⟨k - l.length, by omega, by omega, ?_⟩
    rw [← (ih (k - l.length) (by omega)).1, show l.length + (k - l.length) = k by omega]; exact h3
   ·rintro ⟨k, h1, h2, h3⟩
    exact ⟨l.length + k, by omega, by omega, by rw [(ih k (by omega)).1]; exact h3⟩
  have hst : stay (l ++ p) (l.length + j) = stay p j := by
   rw [stay_eq hx, stay_eq hx']
   have e1 : reachB (l ++ p) (l.length + j) = reachB p j := by rw [Bool.eq_iff_iff, reachB_iff, reachB_iff, ahead_reach h]
   rw [e1]
   congr 1
   unfold useful
   rw [hb, List.length_append, hsome, show l.length + j + 1 + x.n.toNat = l.length + (j + 1 + x.n.toNat) by omega, hsome]
  refine ⟨hst, fun r => ?_⟩
  rw [rdAt_eq hx, rdAt_eq hx', hst, hb]

/-- P16.4: none of them stays -/
theorem ahead_idle {l p : List Ins} {size slots : Int} (hp : MayRun p size slots) (h : Idle l) : ∀ d i, l.length - i = d → i ≤ l.length → (∀ r, rdAt (l ++ p) i r = false) ∧ (i < l.length → stay (l ++ p) i = false) := by
 intro d
 induction d with
 | zero =>
  intro i hd hi
  have : i = l.length + 0 := by omega
  refine ⟨fun r => ?_, fun h => by omega⟩
  rw [this, (ahead_stay h 0).2 r]
  exact rdAt_may hp 0 .start
 | succ d ih =>
  intro i hd hi
  have hlt : i < l.length := by omega
  have hx : l[i]? = some l[i] := List.getElem?_eq_getElem hlt
  have hx' : (l ++ p)[i]? = some l[i] := by rw [List.getElem?_append_left hlt]; exact hx
  generalize l[i] = x at hx hx'
  have hn := idle_next h hx
  have hw := h.w x (List.mem_of_getElem? hx)
  have hb : ∀ r, behind x i (rdAt (l ++ p)) r = false := by
   intro r; unfold behind; rw [(ih (i + 1) (by omega) (by omega)).1 r, hn.2]; simp
  have hs : stay (l ++ p) i = false := by
   rw [stay_eq hx']
   have hop : x.op ≠ 0 := by unfold Ins.isW at hw; simp at hw; omega
   unfold useful
   rw [if_neg hop, hn.2, hw, hb]
   simp
  refine ⟨fun r => ?_, fun _ => hs⟩
  rw [rdAt_eq hx', hs, hb]; simp

theorem ahead_idx {l p : List Ins} {size slots : Int} (hp : MayRun p size slots) (h : Idle l) : (∀ i, i ≤ l.length → idx (l ++ p) i = 0) ∧ ∀ j, idx (l ++ p) (l.length + j) = idx p j := by
 have h1 : ∀ i, i ≤ l.length → idx (l ++ p) i = 0 := by
  intro i
  induction i with
  | zero => intro _; rfl
  | succ i ih =>
   intro hi
   rw [idx_idle ((ahead_idle hp h _ i rfl (by omega)).2 (by omega)), ih (by omega)]
 refine ⟨h1, fun j => ?_⟩
 induction j with
 | zero => rw [Nat.add_zero, h1 _ (Nat.le_refl _)]; rfl
 | succ j ih => rw [show l.length + (j + 1) = l.length + j + 1 by omega, idx_succ, idx_succ, ih, (ahead_stay h j).1]

/-- P16.4 -/
theorem drop_ahead {l p : List Ins} {size slots : Int} (hp : MayRun p size slots) (h : Idle l) : drop (l ++ p) = drop p := by
 have hi := ahead_idx hp h
 have hlen : (drop (l ++ p)).length = (drop p).length := by rw [drop_length, drop_length, List.length_append, hi.2]
 apply List.ext_getElem?
 intro k
 by_cases hk : k < (drop p).length
 ·obtain ⟨j, x, hx, hs, hidx, he⟩ := drop_inv (List.getElem?_eq_getElem hk)
  rw [List.getElem?_eq_getElem hk, he]
  have hx' : (l ++ p)[l.length + j]? = some x := by rw [List.getElem?_append_right (by omega)]; simpa using hx
  have := drop_get hx' (by rw [(ahead_stay h j).1]; exact hs)
  rw [hi.2, hidx] at this
  rw [this]
  congr 1
  unfold keptIns
  rw [show l.length + j + 1 = l.length + (j + 1) by omega, show l.length + (j + 1) + x.n.toNat = l.length + (j + 1 + x.n.toNat) by omega, hi.2, hi.2]
 ·rw [List.getElem?_eq_none (by omega), List.getElem?_eq_none (by omega)]

end Go.Proofs.YtegjeincncccaaaGreatDoor.B
