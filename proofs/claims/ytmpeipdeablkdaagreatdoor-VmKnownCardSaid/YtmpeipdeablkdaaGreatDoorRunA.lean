/- Lists of elements of one cell each, of the call's own: one more behind it, and where it lies then; two such lists, written over with marks, and grown. -/
/- busbarkit: a list of bytes handed in with marks behind, and whether it was kept. -/
/- busbarkit: a list of numbers handed in with marks behind, and whether it was kept. -/
/- busbarkit: have two lists, a list of bytes each, memory of their own? They are written over with marks, and grown. -/
/- busbarkit: have two lists, a list of numbers each, memory of their own? They are written over with marks, and grown. -/
/- busbarkit: have two lists of truths memory of their own? They are grown; each is turned, and the others looked at: what the lists hold. -/
/- busbarkit: have two lists of truths memory of their own? The walk. -/
/- busbarkit: no lists have memory of their own: twelve kinds. -/
/- busbarkit: a book of lists: a list more, a run's lists; has each list memory of its own? -/
import Derived.Test.YtmpeipdeablkdaaGreatDoorBase2
import Derived.Deep.DeepAppendRoom
import Derived.ArgAppend
import Derived.Test.YtmpeipdeablkdaaGreatDoorVmP
import Derived.Deep.QuietTactic
import Derived.BigQuiet
import Derived.Test.YtmpeipdeablkdaaGreatDoorRow
import Derived.StillTailTactics
import Derived.Deep.DrawnRows
import Derived.Deep.Cut
import Derived.Test.YtmpeipdeablkdaaGreatDoorBase
namespace Go.Proofs.YtmpeipdeablkdaaGreatDoor
open Go.RowKit

namespace Code
namespace One

/-- a slice value owns elements of one cell each -/
structure OwnV (E : TypeId) (w : World) (base : Nat) (ao : Option Addr) (n cap : Nat) (vs : List Value) : Prop where
 len : n = vs.length
 own : w.ownsRow base E 1 (.slice ao n cap) n vs

theorem OwnV.nil (E : TypeId) (w : World) (base : Nat) : OwnV E w base none 0 0 [] := ⟨rfl, World.ownsRow_nil _ _ _ _⟩

theorem OwnV.kept {E : TypeId} {w w' : World} {base : Nat} {ao : Option Addr} {n cap : Nat} {vs : List Value} (h : OwnV E w base ao n cap vs) (hb : Below w.heap.size w w') : OwnV E w' base ao n cap vs :=
 ⟨h.len, h.own.kept (row := none) ⟨hb.os, hb.tape, hb.output, hb.size, fun k hk _ => hb.block k hk⟩ (by cases ao <;> simp [Value.ownBlock])⟩

theorem OwnV.keep {E : TypeId} {w w' : World} {base n cap : Nat} {ao : Option Addr} {vs : List Value} (h : OwnV E w base ao n cap vs) (he : ∀ g, ao = some ⟨g, 0, none⟩ → w'.heap[g]? = w.heap[g]?) : OwnV E w' base ao n cap vs := by
 refine ⟨h.len, h.own.1, ?_⟩
 rcases h.own.2 with h2 | ⟨g', c, cur, e, hb, hh, h3⟩
 ·exact .inl h2
 ·refine .inr ⟨g', c, cur, e, hb, ?_, h3⟩
  injection e with e _ _
  exact (he g' e).trans hh

theorem OwnV.weaken {E : TypeId} {w : World} {base base' : Nat} {ao : Option Addr} {n cap : Nat} {vs : List Value} (h : OwnV E w base ao n cap vs) (hb : base' ≤ base) : OwnV E w base' ao n cap vs := by
 refine ⟨h.len, h.own.1, ?_⟩
 rcases h.own.2 with h0 | ⟨g, c, cur, h1, h2, h3⟩
 ·exact .inl h0
 ·exact .inr ⟨g, c, cur, h1, Nat.le_trans hb h2, h3⟩

theorem OwnV.form {E : TypeId} {w : World} {base n cap : Nat} {ao : Option Addr} {vs : List Value} (h : OwnV E w base ao n cap vs) : (ao = none ∧ n = 0 ∧ cap = 0) ∨ ∃ g, ao = some ⟨g, 0, none⟩ ∧ base ≤ g ∧ g < w.heap.size := by
 rcases h.own.2 with ⟨h0, h1⟩ | ⟨g, c, cur, e, hb, hh, h3⟩
 ·injection h0 with e1 e2 e3
  exact .inl ⟨e1, h1, e3⟩
 ·have hh2 := lt_of_block hh
  injection e with e _ _
  exact .inr ⟨g, e, hb, hh2⟩

theorem OwnV.cell {E : TypeId} {w : World} {base n cap : Nat} {ao : Option Addr} {vs : List Value} (h : OwnV E w base ao n cap vs) {i : Nat} {v : Value} (hv : vs[i]? = some v) :
    ∃ g, ao = some ⟨g, 0, none⟩ ∧ base ≤ g ∧ g < w.heap.size ∧ w.cell? ⟨g, i, none⟩ = some v := by
 have hi := (List.getElem?_eq_some_iff.1 hv).1
 rcases h.form with ⟨_, h0, _⟩ | ⟨g, rfl, hg, hw⟩
 ·have := h.len; omega
 ·exact ⟨g, rfl, hg, hw, by rw [World.ownsRow.cellAt h.own i (by have := h.len; omega), hv]⟩

theorem OwnV.capLe {E : TypeId} {w : World} {base : Nat} {ao : Option Addr} {n cap : Nat} {vs : List Value} (h : OwnV E w base ao n cap vs) : n ≤ cap := by
 rcases h.own.2 with ⟨hv, hn⟩ | ⟨g, cap', cur, hv, hg, hh, hle, _⟩
 ·omega
 ·cases hv; exact hle

theorem OwnV.capMax {E : TypeId} {w : World} {base : Nat} {ao : Option Addr} {n cap : Nat} {vs : List Value} (h : OwnV E w base ao n cap vs) : cap ≤ 9223372036854775807 := by
 rcases h.own.2 with ⟨hv, hn⟩ | ⟨g, cap', cur, hv, hg, hh, hle, hm, _⟩
 ·cases hv; omega
 ·cases hv; exact hm

theorem OwnV.take {E : TypeId} {w : World} {base n cap m : Nat} {ao : Option Addr} {vs : List Value} (h : OwnV E w base ao n cap vs) (hm : m ≤ n) : OwnV E w base ao m cap (vs.take m) := by
 have hl : m = (vs.take m).length := by rw [List.length_take, ← h.len]; omega
 refine ⟨hl, by rw [Nat.mul_one]; exact hl.symm, ?_⟩
 rcases h.own.2 with ⟨h0, h1⟩ | ⟨g, c, cur, e, hb, hh, hnc, hcm, hcs, htake⟩
 ·injection h0 with e1 e2 e3
  have hm0 : m = 0 := by omega
  exact .inl ⟨by rw [e1, hm0, e3], hm0⟩
 ·injection e with e1 e2 e3
  refine .inr ⟨g, c, cur, by rw [e1, e3], hb, hh, by omega, hcm, hcs, ?_⟩
  rw [← htake, List.take_take, Nat.mul_one, Nat.mul_one, Nat.min_eq_left hm]

theorem OwnV.put {E : TypeId} {w : World} {base g n cap : Nat} {vs : List Value} (h : OwnV E w base (some ⟨g, 0, none⟩) n cap vs) (j : Nat) (v : Value) : OwnV E (w.setCell ⟨g, j, none⟩ v) base (some ⟨g, 0, none⟩) n cap (vs.set j v) :=
 ⟨by rw [List.length_set]; exact h.len, (World.ownsRow.stored h.own j v).1⟩

/-- one element more behind a list of the call's own: where the list lies then, and what stays -/
theorem app_one {T E : TypeId} {z : Value} {bytes : Nat} (hu : Tryz.prog.underlying T = some (.slice E)) (hinfo : (Tryz.prog.info? E).map (fun i => (i.zero, i.size, i.bytes)) = some (some z, 1, bytes)) (hzs : z.cells.size = 1)
    {ops : Array Oper} {rest : List Oper} {o : Oper} {a : Act} {Q : Exit → Act → World → Prop} {w : World} (hgd : o.guard = none) (s x : Operand)
    (ho : o.op = .call { callee := .builtin .append, args := #[s, x], argTypes := #[T, T] })
    (base : Nat) {ao : Option Addr} {n cap : Nat} {vs : List Value} {v : Value} (hs : a.eval s = .slice ao n cap) (hown : OwnV E w base ao n cap vs) (hv : v.oneCell' = true)
    (hx : a.eval x = .slice (some ⟨w.heap.size, 0, none⟩) 1 1) (hmax : n + 1 ≤ 9223372036854775807) (hbytes : (n + 1) * bytes ≤ 140737488355328) (hbase : base ≤ w.heap.size)
    (h : ∀ ao' cap' w', OwnV E w' base ao' (n + 1) cap' (vs ++ [v]) → (∀ b, b < w.heap.size → ao ≠ some ⟨b, 0, none⟩ → w'.heap[b]? = w.heap[b]?) →
     ((ao' = ao ∧ cap' = cap) ∨ ((∃ g, ao' = some ⟨g, 0, none⟩ ∧ w.heap.size ≤ g) ∧ ∀ b, b < w.heap.size → w'.heap[b]? = w.heap[b]?)) → Below base w w' → wpList Tryz.prog ops Q rest (a.put o.dst (.slice ao' (n + 1) cap')) w') :
    wpList Tryz.prog ops Q (o :: rest) a (w.alloc (.cells #[v] E)) := by
 obtain ⟨i, hi, hz0, hz1, hz2⟩ := info_parts hinfo
 have hnews : ∀ (j : Nat) u, ([v] : List Value)[j]? = some u → (w.alloc (.cells #[v] E)).cell? ((⟨w.heap.size, 0, none⟩ : Addr).add j) = some u := by
  intro j u hu
  have e : (⟨w.heap.size, 0, none⟩ : Addr).add j = ⟨w.heap.size, j, none⟩ := by unfold Addr.add; split <;> simp_all
  rw [e, cell_of_row _ _ _ _ _ _ (heap_alloc_new w _)]
  simpa using hu
 have hones : ∀ u ∈ ([v] : List Value), u.oneCell' = true := fun u hu => by rw [List.mem_singleton.1 hu]; exact hv
 have hqa := hown.own.alloc (.cells #[v] E)
 have hba : Below base w (w.alloc (.cells #[v] E)) := (Below.refl base w).alloc hbase _
 by_cases hroom : n + 1 ≤ cap
 ·rcases hown.form with ⟨_, _, e3⟩ | ⟨g, rfl, hgb, hgw⟩
  ·omega
  ·refine wpList_append_own_spare _ hgd s x T ho base E i 1 hu hi hz1 g n cap vs hs hqa ⟨w.heap.size, 0, none⟩ 1 1 [v] hx rfl hnews hones hroom ?_
   intro w' hown' hg
   refine h _ _ w' ⟨by rw [List.length_append, ← hown.len]; rfl, hown'⟩ (fun b hb hne => ?_) (.inl ⟨rfl, rfl⟩) (hba.grown hg (by simp; omega) (fun k hk => by have := Option.some.inj hk; omega))
   exact (hg.block b (by simp; omega) (fun e => hne (by rw [Option.some.inj e]))).trans (heap_alloc_old _ _ hb)
 ·refine wpList_append_grows _ hgd s x T ho E i _ 1 bytes hu hi hz0 hz1 hz2 hzs (by decide) ao n cap vs hs (fun e => ?_) (by rw [Nat.mul_one]; exact hown.len.symm) (fun b e j u hu => ?_) ⟨w.heap.size, 0, none⟩ 1 1 [v] hx rfl hnews hones (by omega) (by simp only [maxLen]; omega) hbytes ?_
  ·rcases hown.form with ⟨_, e2, e3⟩ | ⟨g, e1, _⟩
   ·exact ⟨e2, e3⟩
   ·rw [e] at e1; cases e1
  ·rcases hown.form with ⟨e1, _⟩ | ⟨g, e1, _⟩
   ·rw [e] at e1; cases e1
   ·rw [e] at e1
    have e4 := Option.some.inj e1
    subst e4
    rw [e] at hqa
    exact hqa.cells (g := g) rfl j u hu
  ·intro v' w' hown' hg
   rcases hown'.2 with ⟨_, hn⟩ | ⟨g, cap', cur, rfl, hbg, rest'⟩
   ·omega
   ·have hbg2 : w.heap.size ≤ g := by simp at hbg; omega
    refine h _ _ w' (OwnV.weaken (base := (w.alloc (.cells #[v] E)).heap.size) ⟨by rw [List.length_append, ← hown.len]; rfl, hown'⟩ (by simp; omega)) (fun b hb _ => ?_) (.inr ⟨⟨g, rfl, hbg2⟩, fun b hb => ?_⟩) (hba.grown hg (by simp; omega) (fun k hk => by cases hk))
    ·exact (hg.block b (by simp; omega) (by simp)).trans (heap_alloc_old _ _ hb)
    ·exact (hg.block b (by simp; omega) (by simp)).trans (heap_alloc_old _ _ hb)

/-- the marks of a list -/
def markL (V : Nat → Nat → Value) (k n : Nat) : List Value := (List.range n).map (V k)

theorem markL_length (V : Nat → Nat → Value) (k n : Nat) : (markL V k n).length = n := by simp [markL]
theorem markL_get (V : Nat → Nat → Value) (k n i : Nat) (h : i < n) : (markL V k n)[i]? = some (V k i) := by
 unfold markL
 rw [List.getElem?_map, List.getElem?_range h]; rfl
theorem markL_succ (V : Nat → Nat → Value) (k n : Nat) : markL V k (n + 1) = markL V k n ++ [V k n] := by unfold markL; rw [List.range_succ, List.map_append]; rfl
theorem markL_take (V : Nat → Nat → Value) (k n m : Nat) (h : m ≤ n) : (markL V k n).take m = markL V k m := by
 unfold markL
 rw [← List.map_take, List.take_range, Nat.min_eq_left h]

theorem markL_parts (V : Nat → Nat → Value) (k n m : Nat) (h : m ≤ 64) : markL V k n ++ ((markL V k (n + 64)).drop n).take m = markL V k (n + m) := by
 have e1 : markL V k n = (markL V k (n + 64)).take n := (markL_take V k _ _ (by omega)).symm
 have e2 : markL V k (n + m) = (markL V k (n + 64)).take (n + m) := (markL_take V k _ _ (by omega)).symm
 rw [e1, e2, List.take_add]

/-- two lists in memory, and the list of both -/
structure Lists (E T : TypeId) (N L : Nat) (A : Nat → Option Addr) (n c : Nat → Nat) (X : Nat → List Value) (w : World) : Prop where
 tab : ∃ Cs : Array Value, w.heap[L]? = some (.cells Cs T (0, 0)) ∧ Cs[0]? = some (.slice (A 0) (n 0) (c 0)) ∧ Cs[1]? = some (.slice (A 1) (n 1) (c 1))
 own : ∀ k, k < 2 → OwnV E w N (A k) (n k) (c k) (X k)
 ne : ∀ j k g, j < 2 → k < 2 → j ≠ k → A j = some ⟨g, 0, none⟩ → A k ≠ some ⟨g, 0, none⟩
 ty : E ≠ T

section
variable {E T : TypeId} {V : Nat → Nat → Value} {N L Z : Nat} {A : Nat → Option Addr} {n c : Nat → Nat} {X X' : Nat → List Value} {w w' : World}

theorem Lists.cell (h : Lists E T N L A n c X w) {k : Nat} (hk : k < 2) : w.cell? ⟨L, k, none⟩ = some (.slice (A k) (n k) (c k)) := by
 obtain ⟨Cs, hC, h0, h1⟩ := h.tab
 rw [cell_of_row _ _ _ _ _ _ hC]
 have : k = 0 ∨ k = 1 := by omega
 rcases this with rfl | rfl
 ·exact h0
 ·exact h1

theorem Lists.tabLt (h : Lists E T N L A n c X w) : L < w.heap.size := by
 obtain ⟨Cs, hC, _⟩ := h.tab
 exact lt_of_block hC

theorem Lists.tabOf (h : Lists E T N L A n c X w) (he : w'.heap[L]? = w.heap[L]?) : ∃ Cs : Array Value, w'.heap[L]? = some (.cells Cs T (0, 0)) ∧ Cs[0]? = some (.slice (A 0) (n 0) (c 0)) ∧ Cs[1]? = some (.slice (A 1) (n 1) (c 1)) := by
 obtain ⟨Cs, hC, h0, h1⟩ := h.tab
 exact ⟨Cs, he.trans hC, h0, h1⟩

theorem Lists.below (h : Lists E T N L A n c X w) (hb : Below w.heap.size w w') : Lists E T N L A n c X w' :=
 ⟨h.tabOf (hb.block L h.tabLt), fun k hk => (h.own k hk).kept hb, h.ne, h.ty⟩

theorem Lists.congr (h : Lists E T N L A n c X w) (he : ∀ k, k < 2 → X k = X' k) : Lists E T N L A n c X' w :=
 ⟨h.tab, fun k hk => by rw [← he k hk]; exact h.own k hk, h.ne, h.ty⟩

theorem Lists.lt (h : Lists E T N L A n c X w) {j g : Nat} (hj : j < 2) (hg : A j = some ⟨g, 0, none⟩) : N ≤ g ∧ g < w.heap.size := by
 have := h.own j hj
 rw [hg] at this
 exact this.own.lt g rfl

theorem Lists.far (h : Lists E T N L A n c X w) {k g : Nat} (hk : k < 2) (hA : A k = some ⟨g, 0, none⟩) : L ≠ g := by
 have ho := h.own k hk
 rw [hA] at ho
 obtain ⟨Cs, hC, _⟩ := h.tab
 have := own_ne ho.own hC h.ty
 intro e; apply this; rw [e]; rfl

/-- an element of one of them is written over -/
theorem Lists.put (h : Lists E T N L A n c X w) {k g : Nat} (hk : k < 2) (hA : A k = some ⟨g, 0, none⟩) (j : Nat) (v : Value) :
    Lists E T N L A n c (fun q => if q = k then (X k).set j v else X q) (w.setCell ⟨g, j, none⟩ v) := by
 have ho := h.own k hk
 rw [hA] at ho
 refine ⟨h.tabOf (blk_other v (h.far hk hA)), fun q hq => ?_, h.ne, h.ty⟩
 by_cases e : q = k
 ·subst e
  simp only [if_true]
  rw [hA]
  exact ho.put j v
 ·simp only [if_neg e]
  refine (h.own q hq).keep (fun g' hg' => blk_other v ?_)
  intro e2
  simp only at e2
  subst e2
  exact h.ne q k g' hq hk e hg' hA

theorem Lists.blk (h : Lists E T N L A n c X w) {k i : Nat} (hk : k < 2) (hi : i < n k) : ∃ g, A k = some ⟨g, 0, none⟩ ∧ N ≤ g ∧ g < w.heap.size := by
 rcases (h.own k hk).form with ⟨_, h0, _⟩ | ⟨g, e, h1, h2⟩
 ·omega
 ·exact ⟨g, e, h1, h2⟩

/-- so many lists are written over, and the first so many places of the next -/
def XA (V : Nat → Nat → Value) (n : Nat → Nat) (X : Nat → List Value) (k i : Nat) : Nat → List Value := fun q => if q < k then markL V q (n q) else if q = k then markL V k i ++ (X k).drop i else X q

theorem XA_start (V : Nat → Nat → Value) (n : Nat → Nat) (X : Nat → List Value) : XA V n X 0 0 = X := by
 funext q
 unfold XA
 rw [if_neg (by omega)]
 by_cases h : q = 0
 ·subst h; rw [if_pos rfl]; simp [markL]
 ·rw [if_neg h]

theorem XA_len {k i : Nat} (h : n k = (XA V n X k i k).length) (hi : i < n k) : (X k).length = n k := by
 unfold XA at h
 rw [if_neg (by omega), if_pos rfl, List.length_append, markL_length, List.length_drop] at h
 omega

theorem XA_next {k i : Nat} (hl : (X k).length = n k) (hi : i < n k) : (fun q => if q = k then (XA V n X k i k).set i (V k i) else XA V n X k i q) = XA V n X k (i + 1) := by
 funext q
 unfold XA
 by_cases h2 : q = k
 ·subst h2
  rw [if_pos rfl, if_neg (by omega), if_pos rfl, if_neg (by omega), if_pos rfl, markL_succ]
  have hlt3 : i < (X q).length := by omega
  rw [List.drop_eq_getElem_cons hlt3, List.set_append_right _ _ (by rw [markL_length]; exact Nat.le_refl _), markL_length, Nat.sub_self, List.set_cons_zero, List.append_assoc]
  rfl
 ·rw [if_neg h2]
  by_cases h1 : q < k
  ·rw [if_pos h1, if_pos h1]
  ·rw [if_neg h1, if_neg h1, if_neg h2, if_neg h2]

theorem XA_done {k : Nat} (hl : n k = (XA V n X k (n k) k).length) : XA V n X k (n k) = XA V n X (k + 1) 0 := by
 have hlX : (X k).drop (n k) = [] := by
  unfold XA at hl
  rw [if_neg (by omega), if_pos rfl, List.length_append, markL_length] at hl
  exact List.eq_nil_of_length_eq_zero (by omega)
 funext q
 unfold XA
 by_cases h1 : q < k
 ·rw [if_pos h1, if_pos (by omega)]
 ·rw [if_neg h1]
  by_cases h2 : q = k
  ·subst h2; rw [if_pos rfl, if_pos (by omega), hlX, List.append_nil]
  ·rw [if_neg h2, if_neg (by omega)]
   by_cases h3 : q = k + 1
   ·subst h3; rw [if_pos rfl]; simp [markL]
   ·rw [if_neg h3]

theorem XA_all (V : Nat → Nat → Value) (n : Nat → Nat) (X : Nat → List Value) {q : Nat} (hq : q < 2) : XA V n X 2 0 q = markL V q (n q) := by unfold XA; rw [if_pos hq]

/-- the lists stay as they are where one is appended to -/
theorem Lists.app (h : Lists E T N L A n c X w) {k m cap cap' : Nat} {ao ao' : Option Addr} {vs vs' : List Value} (hk : k < 2) (hm : n k ≤ m)
    (hl : (ao = A k ∧ cap = c k) ∨ (∃ g, ao = some ⟨g, 0, none⟩ ∧ ∀ j, j < 2 → A j ≠ some ⟨g, 0, none⟩)) (hao : OwnV E w N ao m cap vs) (hown' : OwnV E w' N ao' (m + 1) cap' vs') (hvs : vs'.take (n k) = X k)
    (hkeep : ∀ b, b < w.heap.size → ao ≠ some ⟨b, 0, none⟩ → w'.heap[b]? = w.heap[b]?) (hat : (ao' = ao ∧ cap' = cap) ∨ ∀ b, b < w.heap.size → w'.heap[b]? = w.heap[b]?) : Lists E T N L A n c X w' := by
 have hblk : ∀ j, j < 2 → ∀ g, A j = some ⟨g, 0, none⟩ → g < w.heap.size := fun j hj g hg => (h.lt hj hg).2
 refine ⟨h.tabOf (hkeep L h.tabLt ?_), fun j hj => ?_, h.ne, h.ty⟩
 ·intro e
  rw [e] at hao
  obtain ⟨Cs, hC, _⟩ := h.tab
  exact own_ne hao.own hC h.ty rfl
 ·by_cases e : j = k
  ·subst e
   rcases hat with ⟨rfl, rfl⟩ | hall
   ·rcases hl with ⟨rfl, rfl⟩ | ⟨g, rfl, hfar⟩
    ·have := hown'.take (m := n j) (by omega)
     rw [hvs] at this
     exact this
    ·exact (h.own j hj).keep (fun g' hg' => hkeep g' (hblk j hj g' hg') (fun e => hfar j hj (by rw [hg', e])))
   ·exact (h.own j hj).keep (fun g' hg' => hall g' (hblk j hj g' hg'))
  ·refine (h.own j hj).keep (fun g' hg' => hkeep g' (hblk j hj g' hg') (fun e2 => ?_))
   rcases hl with ⟨rfl, _⟩ | ⟨g, rfl, hfar⟩
   ·exact h.ne j k g' hj hk e hg' e2
   ·exact hfar j hj (by rw [hg', e2])

/-- so many lists have grown by 64 elements -/
structure Grw (E T : TypeId) (N L Z : Nat) (A : Nat → Option Addr) (n c : Nat → Nat) (X : Nat → List Value) (M : Nat → List Value) (G : Nat → Option Addr) (C : Nat → Nat) (k : Nat) (v : Value) (w : World) : Prop where
 ls : Lists E T N L A n c X w
 new : ∀ j, j < k → OwnV E w N (G j) (n j + 64) (C j) (X j ++ M j)
 far : ∀ j m g, j < k → k ≤ m → m < 2 → G j = some ⟨g, 0, none⟩ → A m ≠ some ⟨g, 0, none⟩
 sep : ∀ i j g, i < k → j < k → i ≠ j → G i = some ⟨g, 0, none⟩ → G j ≠ some ⟨g, 0, none⟩
 lies : ∀ j, j < k → G j = A j ∨ ∃ g, G j = some ⟨g, 0, none⟩ ∧ Z ≤ g
 gs : w.ownsRow Z T 1 v k ((List.range k).map fun j => .slice (G j) (n j + 64) (C j))

/-- rows of other elements lie elsewhere -/
theorem own_own_ne {w : World} {base base' E E' size size' n n' : Nat} {v v' : Value} {xs xs' : List Value} (h : w.ownsRow base E size v n xs) (h' : w.ownsRow base' E' size' v' n' xs') (hne : E ≠ E') {b : Nat} (hb : v'.ownBlock = some b) : v.ownBlock ≠ some b := by
 rcases h'.2 with ⟨rfl, _⟩ | ⟨g, cap, cur, rfl, _, hh, _⟩
 ·cases hb
 ·have : g = b := Option.some.inj hb
  subst this
  exact own_ne h hh hne

theorem own_keepV {w w' : World} {base E size n : Nat} {v : Value} {xs : List Value} (h : w.ownsRow base E size v n xs) (hg : ∀ k, v.ownBlock = some k → w'.heap[k]? = w.heap[k]?) : w'.ownsRow base E size v n xs := by
 refine ⟨h.1, ?_⟩
 rcases h.2 with h2 | ⟨g, cap, cur, rfl, hb, hh, h3⟩
 ·exact .inl h2
 ·exact .inr ⟨g, cap, cur, rfl, hb, (hg g rfl).trans hh, h3⟩

/-- one of them grows -/
structure Rg (E T : TypeId) (N L : Nat) (A : Nat → Option Addr) (n c : Nat → Nat) (X : Nat → List Value) (M : Nat → List Value) (k i : Nat) (ao : Option Addr) (cap : Nat) (wo wy : World) : Prop where
 ls : Lists E T N L A n c X wy
 own : OwnV E wy N ao (n k + i) cap (X k ++ (M k).take i)
 keep : ∀ b, b < wo.heap.size → A k ≠ some ⟨b, 0, none⟩ → wy.heap[b]? = wo.heap[b]?
 lies : (ao = A k ∧ cap = c k) ∨ ∃ g, ao = some ⟨g, 0, none⟩ ∧ wo.heap.size ≤ g
 bel : Below N wo wy

variable {M : Nat → List Value} {G : Nat → Option Addr} {C : Nat → Nat}

theorem Rg.start {k : Nat} {wo : World} (h : Lists E T N L A n c X wo) (hk : k < 2) : Rg E T N L A n c X M k 0 (A k) (c k) wo wo :=
 ⟨h, by rw [List.take_zero, List.append_nil]; exact h.own k hk, fun _ _ _ => rfl, .inl ⟨rfl, rfl⟩, Below.refl _ _⟩

theorem Rg.next {k i : Nat} {ao ao' : Option Addr} {cap cap' : Nat} {wo wy w5 w6 : World} (h : Rg E T N L A n c X M k i ao cap wo wy) (hk : k < 2) (hA : ∀ j g, j < 2 → A j = some ⟨g, 0, none⟩ → g < wo.heap.size)
    (hb5 : Below wy.heap.size wy w5) (hown' : OwnV E w6 N ao' (n k + i + 1) cap' (X k ++ (M k).take (i + 1))) (hkeep : ∀ b, b < w5.heap.size → ao ≠ some ⟨b, 0, none⟩ → w6.heap[b]? = w5.heap[b]?)
    (hat : (ao' = ao ∧ cap' = cap) ∨ ((∃ g, ao' = some ⟨g, 0, none⟩ ∧ w5.heap.size ≤ g) ∧ ∀ b, b < w5.heap.size → w6.heap[b]? = w5.heap[b]?)) (hb6 : Below N w5 w6) (hN : N ≤ wo.heap.size) : Rg E T N L A n c X M k (i + 1) ao' cap' wo w6 := by
 have hsy : wo.heap.size ≤ wy.heap.size := h.bel.size
 have hs5 : wy.heap.size ≤ w5.heap.size := hb5.size
 have hl : (ao = A k ∧ cap = c k) ∨ (∃ g, ao = some ⟨g, 0, none⟩ ∧ ∀ j, j < 2 → A j ≠ some ⟨g, 0, none⟩) := by
  rcases h.lies with h1 | ⟨g, hg, hge⟩
  ·exact .inl h1
  ·exact .inr ⟨g, hg, fun j hj e => by have := hA j g hj e; omega⟩
 have hxl := (h.ls.own k hk).len
 refine ⟨Lists.app (h.ls.below hb5) hk (Nat.le_add_right _ i) hl (h.own.kept hb5) hown' (by rw [List.take_append_of_le_length (by omega), List.take_of_length_le (by omega)]) hkeep (hat.imp id (fun h => h.2)), hown', fun b hb hne => ?_, ?_, (h.bel.trans (hb5.mono (by omega))).trans hb6⟩
 ·have e5 : w5.heap[b]? = wo.heap[b]? := (hb5.block b (by omega)).trans (h.keep b hb hne)
  refine (hkeep b (by omega) (fun e => ?_)).trans e5
  rcases h.lies with ⟨h1, _⟩ | ⟨g, hg, hge⟩
  ·exact hne (by rw [← h1, e])
  ·rw [hg] at e
   have : g = b := by injection e with e; injection e
   omega
 ·rcases hat with ⟨rfl, rfl⟩ | ⟨⟨g, hg, hge⟩, _⟩
  ·exact h.lies
  ·exact .inr ⟨g, hg, by omega⟩

theorem Grw.lt {k : Nat} {v : Value} (h : Grw E T N L Z A n c X M G C k v w) {j g : Nat} (hj : j < k) (hg : G j = some ⟨g, 0, none⟩) : N ≤ g ∧ g < w.heap.size := by
 have := h.new j hj
 rw [hg] at this
 exact this.own.lt g rfl

theorem Grw.next {k c5 c6 cap : Nat} {ao5 ao6 ao : Option Addr} {wo wy w6 : World} {o : Obj} (h : Grw E T N L Z A n c X M G C k (.slice ao5 k c5) wo) (hL : L < Z) (hZo : Z ≤ wo.heap.size) (hk : k < 2) (hM : (M k).length = 64) (r : Rg E T N L A n c X M k 64 ao cap wo wy)
    (hown6 : w6.ownsRow Z T 1 (.slice ao6 (k + 1) c6) (k + 1) (((List.range k).map fun j => .slice (G j) (n j + 64) (C j)) ++ [.slice ao (n k + 64) cap])) (hg6 : (wy.alloc o).grownBy w6 (Value.ownBlock (.slice ao5 k c5))) :
    Grw E T N L Z A n c X M (fun j => if j = k then ao else G j) (fun j => if j = k then cap else C j) (k + 1) (.slice ao6 (k + 1) c6) w6 := by
 have hTE : T ≠ E := Ne.symm h.ls.ty
 have hkeep : ∀ b, b < wy.heap.size → Value.ownBlock (.slice ao5 k c5) ≠ some b → w6.heap[b]? = wy.heap[b]? := fun b hb hne => (hg6.block b (by simp; omega) (Ne.symm hne)).trans (heap_alloc_old _ _ hb)
 have hblk : ∀ {j g : Nat}, j < 2 → A j = some ⟨g, 0, none⟩ → Value.ownBlock (.slice ao5 k c5) ≠ some g := by
  intro j g hj hg
  have := h.ls.own j hj
  exact own_own_ne h.gs this.own hTE (by rw [hg]; rfl)
 have hgy : wy.ownsRow Z T 1 (.slice ao5 k c5) k ((List.range k).map fun j => .slice (G j) (n j + 64) (C j)) :=
  own_keepV h.gs (fun b hb => r.keep b (h.gs.lt b hb).2 (fun e => hblk hk e hb))
 have hrown : OwnV E wy N ao (n k + 64) cap (X k ++ M k) := by have := r.own; rw [List.take_of_length_le (by omega)] at this; exact this
 refine ⟨⟨r.ls.tabOf (hkeep L r.ls.tabLt (fun e => ?_)), fun j hj => (r.ls.own j hj).keep (fun g hg => hkeep g (r.ls.lt hj hg).2 (hblk hj hg)), h.ls.ne, h.ls.ty⟩, fun j hj => ?_, fun j m g hj hm hm2 hg => ?_, fun i j g hi hj hij hg => ?_, fun j hj => ?_, ?_⟩
 ·have := (h.gs.lt L e).1; omega
 ·by_cases e : j = k
  ·subst e
   simp only [if_true]
   refine hrown.keep (fun g hg => ?_)
   have hlt : g < wy.heap.size := by
    have := hrown
    rw [hg] at this
    exact (this.own.lt g rfl).2
   exact hkeep g hlt (own_own_ne hgy hrown.own hTE (by rw [hg]; rfl))
  ·simp only [if_neg e]
   have hj' : j < k := by omega
   have hny : OwnV E wy N (G j) (n j + 64) (C j) (X j ++ M j) := (h.new j hj').keep (fun g hg => r.keep g (h.lt hj' hg).2 (h.far j k g hj' (Nat.le_refl _) hk hg))
   refine hny.keep (fun g hg => ?_)
   have hlt : g < wy.heap.size := by
    have := hny
    rw [hg] at this
    exact (this.own.lt g rfl).2
   exact hkeep g hlt (own_own_ne hgy hny.own hTE (by rw [hg]; rfl))
 ·by_cases e : j = k
  ·subst e
   simp only [if_true] at hg
   rcases r.lies with ⟨h1, _⟩ | ⟨g', hg', hge⟩
   ·exact h.ls.ne j m g hk hm2 (by omega) (by rw [← h1, hg])
   ·intro e2
    have := (h.ls.lt hm2 e2).2
    rw [hg'] at hg
    have : g' = g := by injection hg with hg; injection hg
    omega
  ·simp only [if_neg e] at hg
   exact h.far j m g (by omega) (by omega) hm2 hg
 ·-- blocks of grown lists are apart
  have key : ∀ j g, j < k → G j = some ⟨g, 0, none⟩ → ao ≠ some ⟨g, 0, none⟩ := by
   intro j g hj hg e
   rcases r.lies with ⟨h1, _⟩ | ⟨g', hg', hge⟩
   ·exact h.far j k g hj (Nat.le_refl _) hk hg (by rw [← h1, e])
   ·have := (h.lt hj hg).2
    rw [hg'] at e
    have : g' = g := by injection e with e; injection e
    omega
  by_cases ei : i = k
  ·subst ei
   simp only [if_true] at hg
   simp only [if_neg (Ne.symm hij)]
   exact fun e => key j g (by omega) e hg
  ·simp only [if_neg ei] at hg
   by_cases ej : j = k
   ·subst ej
    simp only [if_true]
    exact key i g (by omega) hg
   ·simp only [if_neg ej]
    exact h.sep i j g (by omega) (by omega) hij hg
 ·by_cases e : j = k
  ·subst e
   simp only [if_true]
   rcases r.lies with ⟨h1, _⟩ | ⟨g, hg, hge⟩
   ·exact .inl h1
   ·exact .inr ⟨g, hg, by omega⟩
  ·simp only [if_neg e]
   exact h.lies j (by omega)
 ·have e : (List.range (k + 1)).map (fun j => Value.slice (if j = k then ao else G j) (n j + 64) (if j = k then cap else C j)) = ((List.range k).map fun j => .slice (G j) (n j + 64) (C j)) ++ [.slice ao (n k + 64) cap] := by
    rw [List.range_succ, List.map_append]
    congr 1
    ·refine List.map_congr_left (fun j hj => ?_)
     have := List.mem_range.1 hj
     rw [if_neg (by omega), if_neg (by omega)]
    ·simp
  rw [e]; exact hown6

/-- what is no part of the two lists stays -/
structure Kp (N : Nat) (A : Nat → Option Addr) (w w' : World) : Prop where
 bel : Below N w w'
 keep : ∀ b, b < w.heap.size → (∀ k, k < 2 → A k ≠ some ⟨b, 0, none⟩) → w'.heap[b]? = w.heap[b]?

theorem Kp.refl (N : Nat) (A : Nat → Option Addr) (w : World) : Kp N A w w := ⟨Below.refl _ _, fun _ _ _ => rfl⟩
theorem Kp.drew (h : Kp N A w w') : Kp N A w w'.drew := ⟨h.bel.drew, h.keep⟩
theorem Kp.drewN (h : Kp N A w w') (m : Nat) : Kp N A w (w'.drewN m) := by
 induction m with
 | zero => exact h
 | succ m ih => exact ih.drew
theorem Kp.put (h : Kp N A w w') {k g : Nat} (hk : k < 2) (hA : A k = some ⟨g, 0, none⟩) (hg : N ≤ g) (j : Nat) (v : Value) : Kp N A w (w'.setCell ⟨g, j, none⟩ v) :=
 ⟨h.bel.setCell (p := ⟨g, j, none⟩) hg v, fun b hb hne => (blk_other v (fun e => hne k hk (by rw [hA]; simp only at e; rw [e]))).trans (h.keep b hb hne)⟩
theorem Kp.rg {k i cap : Nat} {ao : Option Addr} {wy : World} (h : Kp N A w w') (r : Rg E T N L A n c X M k i ao cap w' wy) (hk : k < 2) : Kp N A w wy :=
 ⟨h.bel.trans r.bel, fun b hb hne => (r.keep b (Nat.lt_of_lt_of_le hb h.bel.size) (hne k hk)).trans (h.keep b hb hne)⟩
theorem Kp.below {w'' : World} (h : Kp N A w w') (hb : Below Z w' w'') (hZ : w.heap.size ≤ Z) (hN : N ≤ Z) : Kp N A w w'' :=
 ⟨h.bel.trans (hb.mono hN), fun b hb' hne => (hb.block b (Nat.lt_of_lt_of_le hb' hZ)).trans (h.keep b hb' hne)⟩

/-- lists of other elements stay -/
theorem Lists.kp {E' T' : TypeId} {L' : Nat} {A' : Nat → Option Addr} {n' c' : Nat → Nat} {X'' : Nat → List Value} (h : Lists E T N L A n c X w) (h' : Lists E' T' N L' A' n' c' X'' w) (hk : Kp N A' w w') (hE : E' ≠ E) (hT : E' ≠ T) : Lists E T N L A n c X w' := by
 have key : ∀ b, (∃ cs fr, w.heap[b]? = some (.cells cs T fr)) → ∀ k, k < 2 → A' k ≠ some ⟨b, 0, none⟩ := by
  rintro b ⟨cs, fr, hb⟩ k hk' e
  have ho := (h'.own k hk').own
  rw [e] at ho
  exact own_ne ho hb hT rfl
 refine ⟨h.tabOf (hk.keep L h.tabLt (key L ?_)), fun k hk' => (h.own k hk').keep (fun g hg => hk.keep g (h.lt hk' hg).2 (fun q hq e => ?_)), h.ne, h.ty⟩
 ·obtain ⟨Cs, hC, _⟩ := h.tab
  exact ⟨Cs, _, hC⟩
 ·have ho := (h.own k hk').own
  have ho' := (h'.own q hq).own
  rw [hg] at ho
  rw [e] at ho'
  exact own_own_ne ho' ho hE (b := g) rfl rfl

theorem Grw.start (h : Lists E T N L A n c X w) (_hZ : Z = w.heap.size) : Grw E T N L Z A n c X M (fun _ => none) (fun _ => 0) 0 (.slice none 0 0) w :=
 ⟨h, fun j hj => by omega, fun j m g hj => by omega, fun i j g hi => by omega, fun j hj => by omega, World.ownsRow_nil _ _ _ _⟩

end

end One
end Code
end Go.Proofs.YtmpeipdeablkdaaGreatDoor

namespace Go.Proofs.YtmpeipdeablkdaaGreatDoor
open Go.RowKit
namespace Code
namespace One
attribute [local go_sem ↓] Go.wp_at_zero Go.wp_at_succ

theorem infoEB : (Tryz.prog.info? 5).map (fun i => (i.zero, i.size, i.bytes)) = some (some (.int .u8 0), 1, 1) := by kernel_rfl

/-- a mark -/
def mkB (k i : Int) : Int := IntKind.u8.wrap (37 * (k + 1) + i)
def mkBV (k i : Nat) : Value := .int .u8 (mkB k i)

def MarkBOut (x : Int) (w : World) (e : Ending) (w' : World) : Prop := e = .returned (.int .u8 x) ∧ w = w'

theorem markB_any (k i : Int) (hk : 0 ≤ k ∧ k ≤ 100) (hi : -1000000000000000000 ≤ i ∧ i ≤ 1000000000000000000) (w : World) :
    Calls Tryz.prog 157 #[.int .i64 k, .int .i64 i] w (MarkBOut (mkB k i) w) := by
 obtain ⟨hk0, hk1⟩ := hk
 obtain ⟨hi0, hi1⟩ := hi
 go_enter Tryz.func157, Tryz.ntmps157
 go_wp2
 go_ret
 exact ⟨rfl, rfl⟩

set_option maxHeartbeats 1600000 in
theorem fullB_any (a : Option Addr) (len cap : Nat) (l : List Nat) (w : World) (hp : ListAt w a len (l.map u8V)) (hr : len * 1 ≤ 140737488351232) :
    Calls Tryz.prog 105 #[.slice a len cap] w fun e w' => ∃ ao cap', e = .returned (.slice ao (len + 16) cap') ∧ OwnV 5 w' w.heap.size ao (len + 16) cap' (l.map u8V ++ markL mkBV 90 16) ∧ Below w.heap.size w w' := by
 have HP := Lib.hid hp
 have HLL : Hid (len = l.length) := Lib.hid (by simpa using hp.len)
 clear hp
 go_enter Tryz.func105, Tryz.ntmps105
 go_wp2
 go_loopw [3, 4] (fun v i wr => ∃ (k : Nat) (ao : Option Addr) (cp : Nat), k ≤ len ∧ i = .int .i64 k ∧ v = .slice ao k cp ∧ OwnV 5 wr w.heap.size ao k cp ((l.take k).map u8V) ∧ Below w.heap.size w wr)
  (fun _ i _ => len - (intOf i).toNat)
 case atStart => exact ⟨0, none, 0, Nat.zero_le _, rfl, rfl, OwnV.nil _ _ _, Below.refl _ _⟩
 case round =>
  obtain ⟨k, ao, cp, hk, rfl, rfl, hown, hb⟩ := hrel
  have HB := Lib.hid hb
  have HO := Lib.hid hown
  have hsz := hb.size
  by_cases hlt : k < len
  ·have hx : l[k]? = some (l[k]'(by have := HLL.out; omega)) := List.getElem?_eq_getElem _
   generalize l[k]'(by have := HLL.out; omega) = x at hx
   obtain ⟨b, off, rfl, hbl, hc⟩ := HP.out.at_ k (u8V x) (by rw [List.getElem?_map, hx]; rfl)
   replace hc := (hb.cell (p := ⟨b, off + k, none⟩) hbl).trans hc
   unfold u8V at hc
   have HX := Lib.hid hx
   clear hx hown hb
   go_wp2_with (at_builtin; refine app_one Tryz.underlying32 infoEB rfl rfl _ _ rfl w.heap.size rfl HO.out rfl rfl (by omega) (by omega) (by omega) ?_; intro ao' cap' w1 hown1 _ _ hb1)
   go_roundw
   case rel => exact ⟨k + 1, ao', cap', by omega, by go_num, rfl, by rw [B.take_succ_get HX.out, List.map_append]; exact hown1, HB.out.trans (hb1.mono (Nat.le_refl _))⟩
   case measure => simp [intOf]; omega
  ·obtain rfl : k = len := by omega
   have HO2 : Hid (OwnV 5 wr w.heap.size ao k cp (l.map u8V)) := by
    have := hown
    rw [List.take_of_length_le (by have := HLL.out; omega)] at this
    exact this
   clear hown hb HO
   go_wp2
   go_loopw [3, 5] (fun v i w2 => ∃ (m : Nat) (ao : Option Addr) (cp : Nat), m ≤ 16 ∧ i = .int .i64 m ∧ v = .slice ao (k + m) cp ∧ OwnV 5 w2 w.heap.size ao (k + m) cp (l.map u8V ++ markL mkBV 90 m) ∧ Below w.heap.size w w2)
    (fun _ i _ => 16 - (intOf i).toNat)
   case atStart => exact ⟨0, ao, cp, by omega, rfl, rfl, by simpa [markL] using HO2.out, HB.out⟩
   case round =>
    obtain ⟨m, ao2, cp2, hm, rfl, rfl, hown2, hb2⟩ := hrel
    have HB2 := Lib.hid hb2
    have HO3 := Lib.hid hown2
    have hsz2 := hb2.size
    clear hb2 hown2
    by_cases hlt2 : m < 16
    ·have HMK := markB_any 90 m (by omega) (by omega)
     unfold MarkBOut at HMK
     go_wp2_with fail
     refine (HMK _).mono ?_
     rintro e w3 ⟨rfl, rfl⟩
     go_wp2_with (at_builtin; refine app_one Tryz.underlying32 infoEB rfl rfl _ _ rfl w.heap.size rfl HO3.out rfl rfl (by omega) (by omega) (by omega) ?_; intro ao' cap' w1 hown1 _ _ hb1)
     go_roundw
     case rel => exact ⟨m + 1, ao', cap', by omega, by go_num, by rw [Nat.add_assoc], by rw [markL_succ, ← List.append_assoc]; exact hown1, HB2.out.trans hb1⟩
     case measure => simp [intOf]; omega
    ·obtain rfl : m = 16 := by omega
     go_wp2
     go_ret
     exact ⟨ao2, cp2, rfl, HO3.out, HB2.out⟩

set_option maxHeartbeats 1600000 in
theorem lentB_any (a : Option Addr) (len cap : Nat) (l : List Nat) (w : World) (hp : ListAt w a len (l.map u8V)) (hr : len * 1 ≤ 140737488351232) :
    Calls Tryz.prog 68 #[.slice a len cap] w fun e w' => ∃ ao cap', e = .returned (.slice ao len cap') ∧ OwnV 5 w' w.heap.size ao (len + 16) cap' (l.map u8V ++ markL mkBV 90 16) ∧ Below w.heap.size w w' := by
 go_enter Tryz.func68, Tryz.ntmps68
 go_wp2_with fail
 refine (fullB_any a len cap l _ hp hr).mono ?_
 rintro e w1 ⟨ao, cap', rfl, hown, hb⟩
 have hc := hown.capLe
 have hm := hown.capMax
 have HO := Lib.hid hown
 have HB := Lib.hid hb
 have hl2 : len ≤ cap' := by omega
 clear hown hb hp
 go_wp2
 go_ret
 exact ⟨ao, cap', rfl, HO.out, HB.out⟩

theorem OwnV.aheadB {w : World} {base : Nat} {ao : Option Addr} {n cap len : Nat} {l : List Nat} {vs : List Value} (h : OwnV 5 w base ao n cap (l.map u8V ++ vs)) (hl : len = l.length) : ListAt w ao len (l.map u8V) :=
 ⟨by simpa using hl, fun i v hv => by
  obtain ⟨g, e, _, hlt, hc⟩ := h.cell (i := i) (v := v) (by rw [List.getElem?_append_left (List.getElem?_eq_some_iff.1 hv).1]; exact hv)
  exact ⟨g, 0, e, hlt, by rw [Nat.zero_add]; exact hc⟩⟩

set_option maxHeartbeats 1600000 in
theorem keptfullB_any (ao : Option Addr) (cap' : Nat) (a : Option Addr) (len cap base : Nat) (l : List Nat) (w : World) (ho : OwnV 5 w base ao (len + 16) cap' (l.map u8V ++ markL mkBV 90 16)) (hp : ListAt w a len (l.map u8V)) (hr : len * 1 ≤ 140737488351232) :
    Calls Tryz.prog 127 #[.slice ao (len + 16) cap', .slice a len cap] w fun e w' => e = .returned (.bool true) ∧ Below w.heap.size w w' := by
 have HP := Lib.hid hp
 have HLL : Hid (len = l.length) := Lib.hid (by simpa using hp.len)
 have HO := Lib.hid ho
 clear hp ho
 go_enter Tryz.func127, Tryz.ntmps127
 go_wp2
 go_loopw [5] (fun i wr => ∃ (k : Nat), k ≤ len + 16 ∧ i = .int .i64 k ∧ Below w.heap.size w wr)
  (fun i _ => len + 16 - (intOf i).toNat)
 case atStart => exact ⟨0, Nat.zero_le _, rfl, Below.refl _ _⟩
 case round =>
  obtain ⟨k, hk, rfl, hb⟩ := hrel
  have HB := Lib.hid hb
  clear hb
  by_cases hlt : k < len + 16
  ·have HMK := markB_any 90 ((k : Int) - (len : Int)) (by omega) (by omega)
   unfold MarkBOut at HMK
   have k0 : (0 : Int) ≤ (k : Int) := by omega
   have k1 : (k : Int) < (len : Int) + 16 := by omega
   by_cases hk2 : k < len
   ·have hx : l[k]? = some (l[k]'(by have := HLL.out; omega)) := List.getElem?_eq_getElem _
    generalize l[k]'(by have := HLL.out; omega) = x at hx
    obtain ⟨b, off, rfl, hbl, hc⟩ := HP.out.at_ k (u8V x) (by rw [List.getElem?_map, hx]; rfl)
    replace hc := (HB.out.cell (p := ⟨b, off + k, none⟩) hbl).trans hc
    obtain ⟨g, rfl, hg1, hg2, hd⟩ := HO.out.cell (i := k) (v := u8V x) (by rw [List.getElem?_append_left (by rw [List.length_map]; have := HLL.out; omega), List.getElem?_map, hx]; rfl)
    replace hd := (HB.out.cell (p := ⟨g, k, none⟩) hg2).trans hd
    unfold u8V at hc hd
    have q1 : ((x : Int) != (x : Int)) = false := by simp
    clear hx
    go_wp2_with fail
    refine (HMK _).mono ?_
    rintro e w3 ⟨rfl, rfl⟩
    go_wp2_with fail
    first
     | (go_quiet (fail)
        go_wp2_with fail)
     | skip
    go_roundw
    case rel => exact ⟨k + 1, by omega, by go_num, by first | exact HB.out | exact belowN HB.out _⟩
    case measure => simp [intOf]; omega
   ·obtain ⟨g, rfl, hg1, hg2, hd⟩ := HO.out.cell (i := k) (v := mkBV 90 (k - len)) (by rw [List.getElem?_append_right (by rw [List.length_map]; have := HLL.out; omega), List.length_map, ← HLL.out, markL_get _ _ _ _ (by omega)])
    replace hd := (HB.out.cell (p := ⟨g, k, none⟩) hg2).trans hd
    unfold mkBV at hd
    rw [show ((k - len : Nat) : Int) = (k : Int) - (len : Int) by omega, show ((90 : Nat) : Int) = 90 from rfl] at hd
    generalize mkB 90 ((k : Int) - (len : Int)) = z at hd HMK
    have q1 : (z != z) = false := by simp
    go_wp2_with fail
    refine (HMK _).mono ?_
    rintro e w3 ⟨rfl, rfl⟩
    go_wp2_with fail
    first
     | (go_quiet (fail)
        go_wp2_with fail)
     | skip
    go_roundw
    case rel => exact ⟨k + 1, by omega, by go_num, by first | exact HB.out | exact belowN HB.out _⟩
    case measure => simp [intOf]; omega
  ·go_wp2
   go_ret
   exact ⟨rfl, HB.out⟩

set_option maxHeartbeats 1600000 in
theorem keptB_any (ao : Option Addr) (cap' : Nat) (a : Option Addr) (len cap base : Nat) (l : List Nat) (w : World) (ho : OwnV 5 w base ao (len + 16) cap' (l.map u8V ++ markL mkBV 90 16)) (hp : ListAt w a len (l.map u8V)) (hr : len * 1 ≤ 140737488351232) :
    Calls Tryz.prog 75 #[.slice ao len cap', .slice a len cap] w (fun e w' => e = .returned (.bool true) ∧ Below w.heap.size w w') := by
 have hc := ho.capLe
 have hm := ho.capMax
 have HP := Lib.hid hp
 have HO := Lib.hid ho
 clear hp ho
 go_enter Tryz.func75, Tryz.ntmps75
 go_wp2_with fail
 refine (keptfullB_any _ _ _ _ _ base l _ HO.out HP.out hr).mono ?_
 rintro e w3 ⟨rfl, hb3⟩
 have HB := Lib.hid hb3
 clear hb3
 go_wp2
 go_ret
 exact ⟨rfl, HB.out⟩

end One
end Code
end Go.Proofs.YtmpeipdeablkdaaGreatDoor

namespace Go.Proofs.YtmpeipdeablkdaaGreatDoor
open Go.RowKit
namespace Code
namespace One
attribute [local go_sem ↓] Go.wp_at_zero Go.wp_at_succ

theorem infoEN : (Tryz.prog.info? 22).map (fun i => (i.zero, i.size, i.bytes)) = some (some (.int .u64 0), 1, 8) := by kernel_rfl

/-- a mark -/
def mkN (k i : Int) : Int := IntKind.u64.wrap (9223372036854775808 + 1000000 * (k + 1) + IntKind.u64.wrap i)
def mkNV (k i : Nat) : Value := .int .u64 (mkN k i)

def MarkNOut (x : Int) (w : World) (e : Ending) (w' : World) : Prop := e = .returned (.int .u64 x) ∧ w = w'

theorem markN_any (k i : Int) (hk : 0 ≤ k ∧ k ≤ 100) (hi : -1000000000000000000 ≤ i ∧ i ≤ 1000000000000000000) (w : World) :
    Calls Tryz.prog 158 #[.int .i64 k, .int .i64 i] w (MarkNOut (mkN k i) w) := by
 obtain ⟨hk0, hk1⟩ := hk
 obtain ⟨hi0, hi1⟩ := hi
 go_enter Tryz.func158, Tryz.ntmps158
 go_wp2
 go_ret
 exact ⟨rfl, rfl⟩

set_option maxHeartbeats 1600000 in
theorem fullN_any (a : Option Addr) (len cap : Nat) (l : List Nat) (w : World) (hp : ListAt w a len (l.map u64V)) (hr : len * 8 ≤ 140737488351232) :
    Calls Tryz.prog 106 #[.slice a len cap] w fun e w' => ∃ ao cap', e = .returned (.slice ao (len + 16) cap') ∧ OwnV 22 w' w.heap.size ao (len + 16) cap' (l.map u64V ++ markL mkNV 90 16) ∧ Below w.heap.size w w' := by
 have HP := Lib.hid hp
 have HLL : Hid (len = l.length) := Lib.hid (by simpa using hp.len)
 clear hp
 go_enter Tryz.func106, Tryz.ntmps106
 go_wp2
 go_loopw [3, 4] (fun v i wr => ∃ (k : Nat) (ao : Option Addr) (cp : Nat), k ≤ len ∧ i = .int .i64 k ∧ v = .slice ao k cp ∧ OwnV 22 wr w.heap.size ao k cp ((l.take k).map u64V) ∧ Below w.heap.size w wr)
  (fun _ i _ => len - (intOf i).toNat)
 case atStart => exact ⟨0, none, 0, Nat.zero_le _, rfl, rfl, OwnV.nil _ _ _, Below.refl _ _⟩
 case round =>
  obtain ⟨k, ao, cp, hk, rfl, rfl, hown, hb⟩ := hrel
  have HB := Lib.hid hb
  have HO := Lib.hid hown
  have hsz := hb.size
  by_cases hlt : k < len
  ·have hx : l[k]? = some (l[k]'(by have := HLL.out; omega)) := List.getElem?_eq_getElem _
   generalize l[k]'(by have := HLL.out; omega) = x at hx
   obtain ⟨b, off, rfl, hbl, hc⟩ := HP.out.at_ k (u64V x) (by rw [List.getElem?_map, hx]; rfl)
   replace hc := (hb.cell (p := ⟨b, off + k, none⟩) hbl).trans hc
   unfold u64V at hc
   have HX := Lib.hid hx
   clear hx hown hb
   go_wp2_with (at_builtin; refine app_one Tryz.underlying33 infoEN rfl rfl _ _ rfl w.heap.size rfl HO.out rfl rfl (by omega) (by omega) (by omega) ?_; intro ao' cap' w1 hown1 _ _ hb1)
   go_roundw
   case rel => exact ⟨k + 1, ao', cap', by omega, by go_num, rfl, by rw [B.take_succ_get HX.out, List.map_append]; exact hown1, HB.out.trans (hb1.mono (Nat.le_refl _))⟩
   case measure => simp [intOf]; omega
  ·obtain rfl : k = len := by omega
   have HO2 : Hid (OwnV 22 wr w.heap.size ao k cp (l.map u64V)) := by
    have := hown
    rw [List.take_of_length_le (by have := HLL.out; omega)] at this
    exact this
   clear hown hb HO
   go_wp2
   go_loopw [3, 5] (fun v i w2 => ∃ (m : Nat) (ao : Option Addr) (cp : Nat), m ≤ 16 ∧ i = .int .i64 m ∧ v = .slice ao (k + m) cp ∧ OwnV 22 w2 w.heap.size ao (k + m) cp (l.map u64V ++ markL mkNV 90 m) ∧ Below w.heap.size w w2)
    (fun _ i _ => 16 - (intOf i).toNat)
   case atStart => exact ⟨0, ao, cp, by omega, rfl, rfl, by simpa [markL] using HO2.out, HB.out⟩
   case round =>
    obtain ⟨m, ao2, cp2, hm, rfl, rfl, hown2, hb2⟩ := hrel
    have HB2 := Lib.hid hb2
    have HO3 := Lib.hid hown2
    have hsz2 := hb2.size
    clear hb2 hown2
    by_cases hlt2 : m < 16
    ·have HMK := markN_any 90 m (by omega) (by omega)
     unfold MarkNOut at HMK
     go_wp2_with fail
     refine (HMK _).mono ?_
     rintro e w3 ⟨rfl, rfl⟩
     go_wp2_with (at_builtin; refine app_one Tryz.underlying33 infoEN rfl rfl _ _ rfl w.heap.size rfl HO3.out rfl rfl (by omega) (by omega) (by omega) ?_; intro ao' cap' w1 hown1 _ _ hb1)
     go_roundw
     case rel => exact ⟨m + 1, ao', cap', by omega, by go_num, by rw [Nat.add_assoc], by rw [markL_succ, ← List.append_assoc]; exact hown1, HB2.out.trans hb1⟩
     case measure => simp [intOf]; omega
    ·obtain rfl : m = 16 := by omega
     go_wp2
     go_ret
     exact ⟨ao2, cp2, rfl, HO3.out, HB2.out⟩

set_option maxHeartbeats 1600000 in
theorem lentN_any (a : Option Addr) (len cap : Nat) (l : List Nat) (w : World) (hp : ListAt w a len (l.map u64V)) (hr : len * 8 ≤ 140737488351232) :
    Calls Tryz.prog 69 #[.slice a len cap] w fun e w' => ∃ ao cap', e = .returned (.slice ao len cap') ∧ OwnV 22 w' w.heap.size ao (len + 16) cap' (l.map u64V ++ markL mkNV 90 16) ∧ Below w.heap.size w w' := by
 go_enter Tryz.func69, Tryz.ntmps69
 go_wp2_with fail
 refine (fullN_any a len cap l _ hp hr).mono ?_
 rintro e w1 ⟨ao, cap', rfl, hown, hb⟩
 have hc := hown.capLe
 have hm := hown.capMax
 have HO := Lib.hid hown
 have HB := Lib.hid hb
 have hl2 : len ≤ cap' := by omega
 clear hown hb hp
 go_wp2
 go_ret
 exact ⟨ao, cap', rfl, HO.out, HB.out⟩

theorem OwnV.aheadN {w : World} {base : Nat} {ao : Option Addr} {n cap len : Nat} {l : List Nat} {vs : List Value} (h : OwnV 22 w base ao n cap (l.map u64V ++ vs)) (hl : len = l.length) : ListAt w ao len (l.map u64V) :=
 ⟨by simpa using hl, fun i v hv => by
  obtain ⟨g, e, _, hlt, hc⟩ := h.cell (i := i) (v := v) (by rw [List.getElem?_append_left (List.getElem?_eq_some_iff.1 hv).1]; exact hv)
  exact ⟨g, 0, e, hlt, by rw [Nat.zero_add]; exact hc⟩⟩

set_option maxHeartbeats 1600000 in
theorem keptfullN_any (ao : Option Addr) (cap' : Nat) (a : Option Addr) (len cap base : Nat) (l : List Nat) (w : World) (ho : OwnV 22 w base ao (len + 16) cap' (l.map u64V ++ markL mkNV 90 16)) (hp : ListAt w a len (l.map u64V)) (hr : len * 8 ≤ 140737488351232) :
    Calls Tryz.prog 128 #[.slice ao (len + 16) cap', .slice a len cap] w fun e w' => e = .returned (.bool true) ∧ Below w.heap.size w w' := by
 have HP := Lib.hid hp
 have HLL : Hid (len = l.length) := Lib.hid (by simpa using hp.len)
 have HO := Lib.hid ho
 clear hp ho
 go_enter Tryz.func128, Tryz.ntmps128
 go_wp2
 go_loopw [5] (fun i wr => ∃ (k : Nat), k ≤ len + 16 ∧ i = .int .i64 k ∧ Below w.heap.size w wr)
  (fun i _ => len + 16 - (intOf i).toNat)
 case atStart => exact ⟨0, Nat.zero_le _, rfl, Below.refl _ _⟩
 case round =>
  obtain ⟨k, hk, rfl, hb⟩ := hrel
  have HB := Lib.hid hb
  clear hb
  by_cases hlt : k < len + 16
  ·have HMK := markN_any 90 ((k : Int) - (len : Int)) (by omega) (by omega)
   unfold MarkNOut at HMK
   have k0 : (0 : Int) ≤ (k : Int) := by omega
   have k1 : (k : Int) < (len : Int) + 16 := by omega
   by_cases hk2 : k < len
   ·have hx : l[k]? = some (l[k]'(by have := HLL.out; omega)) := List.getElem?_eq_getElem _
    generalize l[k]'(by have := HLL.out; omega) = x at hx
    obtain ⟨b, off, rfl, hbl, hc⟩ := HP.out.at_ k (u64V x) (by rw [List.getElem?_map, hx]; rfl)
    replace hc := (HB.out.cell (p := ⟨b, off + k, none⟩) hbl).trans hc
    obtain ⟨g, rfl, hg1, hg2, hd⟩ := HO.out.cell (i := k) (v := u64V x) (by rw [List.getElem?_append_left (by rw [List.length_map]; have := HLL.out; omega), List.getElem?_map, hx]; rfl)
    replace hd := (HB.out.cell (p := ⟨g, k, none⟩) hg2).trans hd
    unfold u64V at hc hd
    have q1 : ((x : Int) != (x : Int)) = false := by simp
    clear hx
    go_wp2_with fail
    refine (HMK _).mono ?_
    rintro e w3 ⟨rfl, rfl⟩
    go_wp2_with fail
    first
     | (go_quiet (fail)
        go_wp2_with fail)
     | skip
    go_roundw
    case rel => exact ⟨k + 1, by omega, by go_num, by first | exact HB.out | exact belowN HB.out _⟩
    case measure => simp [intOf]; omega
   ·obtain ⟨g, rfl, hg1, hg2, hd⟩ := HO.out.cell (i := k) (v := mkNV 90 (k - len)) (by rw [List.getElem?_append_right (by rw [List.length_map]; have := HLL.out; omega), List.length_map, ← HLL.out, markL_get _ _ _ _ (by omega)])
    replace hd := (HB.out.cell (p := ⟨g, k, none⟩) hg2).trans hd
    unfold mkNV at hd
    rw [show ((k - len : Nat) : Int) = (k : Int) - (len : Int) by omega, show ((90 : Nat) : Int) = 90 from rfl] at hd
    generalize mkN 90 ((k : Int) - (len : Int)) = z at hd HMK
    have q1 : (z != z) = false := by simp
    go_wp2_with fail
    refine (HMK _).mono ?_
    rintro e w3 ⟨rfl, rfl⟩
    go_wp2_with fail
    first
     | (go_quiet (fail)
        go_wp2_with fail)
     | skip
    go_roundw
    case rel => exact ⟨k + 1, by omega, by go_num, by first | exact HB.out | exact belowN HB.out _⟩
    case measure => simp [intOf]; omega
  ·go_wp2
   go_ret
   exact ⟨rfl, HB.out⟩

set_option maxHeartbeats 1600000 in
theorem keptN_any (ao : Option Addr) (cap' : Nat) (a : Option Addr) (len cap base : Nat) (l : List Nat) (w : World) (ho : OwnV 22 w base ao (len + 16) cap' (l.map u64V ++ markL mkNV 90 16)) (hp : ListAt w a len (l.map u64V)) (hr : len * 8 ≤ 140737488351232) :
    Calls Tryz.prog 76 #[.slice ao len cap', .slice a len cap] w (fun e w' => e = .returned (.bool true) ∧ Below w.heap.size w w') := by
 have hc := ho.capLe
 have hm := ho.capMax
 have HP := Lib.hid hp
 have HO := Lib.hid ho
 clear hp ho
 go_enter Tryz.func76, Tryz.ntmps76
 go_wp2_with fail
 refine (keptfullN_any _ _ _ _ _ base l _ HO.out HP.out hr).mono ?_
 rintro e w3 ⟨rfl, hb3⟩
 have HB := Lib.hid hb3
 clear hb3
 go_wp2
 go_ret
 exact ⟨rfl, HB.out⟩

end One
end Code
end Go.Proofs.YtmpeipdeablkdaaGreatDoor

namespace Go.Proofs.YtmpeipdeablkdaaGreatDoor
open Go.RowKit

namespace Code
namespace One

attribute [local go_sem ↓] Go.wp_at_zero Go.wp_at_succ

theorem infoLB : (Tryz.prog.info? 32).map (fun i => (i.zero, i.size, i.bytes)) = some (some (.slice none 0 0), 1, 24) := by kernel_rfl

set_option maxRecDepth 100000 in
set_option maxHeartbeats 12800000 in
theorem apartB_any (N L : Nat) (A : Nat → Option Addr) (n c : Nat → Nat) (X : Nat → List Value) (cl : Nat) (w : World) (h : Lists 5 32 N L A n c X w) (hn : ∀ k, n k ≤ 20000) (hN : N ≤ w.heap.size) (hNL : N ≤ L) :
    Calls Tryz.prog 113 #[.slice (some ⟨L, 0, none⟩) 2 cl] w fun e w' => e = .returned (.bool true) ∧ Kp N A w w' := by
 have H0 := Lib.hid h
 have HN := Lib.hid hn
 have hL := h.tabLt
 clear h hn
 go_enter Tryz.func113, Tryz.ntmps113
 go_wp2_with fail
 go_loopw [3] (fun v wr => ∃ k : Nat, k ≤ 2 ∧ v = .int .i64 k ∧ Lists 5 32 N L A n c (XA mkBV n X k 0) wr ∧ Kp N A w wr) (fun v _ => 2 - (intOf v).toNat)
 case atStart => exact ⟨0, by omega, rfl, by rw [XA_start]; exact H0.out, Kp.refl _ _ _⟩
 case round =>
  obtain ⟨k, hk, rfl, hls, hb⟩ := hrel
  have HLS := Lib.hid hls
  have HB := Lib.hid hb
  have hsz := hb.bel.size
  clear hls hb H0
  by_cases hlt : k < 2
  ·have k0 : (0 : Int) ≤ (k : Int) := by omega
   have k1 : (k : Int) < 2 := by omega
   go_wp2_with fail
   obtain ⟨wo, hwo⟩ : ∃ wo : World, wo = wr := ⟨_, rfl⟩
   subst hwo
   go_loopw [4] (fun v wy => ∃ i : Nat, i ≤ n k ∧ v = .int .i64 i ∧ Lists 5 32 N L A n c (XA mkBV n X k i) wy ∧ Kp N A w wy) (fun v _ => n k - (intOf v).toNat)
   case atStart =>
    exact ⟨0, by omega, rfl, HLS.out, HB.out⟩
   case round =>
    obtain ⟨i, hi, rfl, hls2, hb2⟩ := hrel
    have HL2 := Lib.hid hls2
    have HB2 := Lib.hid hb2
    have hsz2 := hb2.bel.size
    have hszN : N ≤ wr.heap.size := by omega
    have cT := hls2.cell hlt
    have hnk := HN.out k
    clear hls2 hb2 HLS HB
    by_cases hlt2 : i < n k
    ·obtain ⟨g, hA, hgN, hgw⟩ := HL2.out.blk hlt hlt2
     have HCT := Lib.hid cT
     have HA := Lib.hid hA
     rw [hA] at cT
     generalize hnke : n k = nk at *
     have HNK := Lib.hid hnke
     clear hnke
     have i0 : (0 : Int) ≤ (i : Int) := by omega
     have i1 : (i : Int) < (nk : Int) := by omega
     have HCG : Hid (wr.cell? ⟨L, k, none⟩ = some (.slice (some ⟨g, 0, none⟩) nk (c k))) := cT
     have ho := HL2.out.own k hlt
     rw [HA.out, HNK.out] at ho
     obtain ⟨u0, hu0⟩ : ∃ u, (XA mkBV n X k i k)[i]? = some u := ⟨_, List.getElem?_eq_getElem (by rw [← ho.len]; exact hlt2)⟩
     have cE : wr.cell? ⟨g, i, none⟩ = some u0 := by rw [World.ownsRow.cellAt ho.own i (by omega), hu0]
     have fE : wr.frozen? ⟨g, i, none⟩ = false := World.ownsRow.frozenAt ho.own i
     have HPUT := Lib.hid ((HL2.out.put hlt HA.out i (mkBV k i)).below (Below.refl _ _).drew)
     have HMK := markB_any k i (by omega) (by omega)
     unfold MarkBOut at HMK
     unfold mkBV at HPUT
     have HMKH := Lib.hid HMK
     clear HMK ho hu0
     obtain ⟨z, hz⟩ : ∃ z, mkB (k : Int) (i : Int) = z := ⟨_, rfl⟩
     rw [hz] at HMKH HPUT
     have HZE := Lib.hid hz
     clear hz
     go_wp2_with fail
     clear cT
     refine wp_region_held_drew (S := fun w' => w'.cell? ⟨L, k, none⟩ = some (.slice (some ⟨g, 0, none⟩) nk (c k))) (by kernel_rfl) HCG.out (fun hS1 => ?_)
     refine takeS (i := 0) (d := 27) (v := .slice (some ⟨L, 0, none⟩) 2 cl) rfl rfl rfl (by kernel_rfl) (by kernel_rfl) (by kernel_rfl) (fun _ _ _ h => h) (fun w' _ => by go_simp) hS1 ?_
     simp only [Act.put, List.setIfInBounds_toArray, List.set_cons_zero, List.set_cons_succ]
     refine takeS (i := 1) (d := 28) (v := .int .i64 (k : Int)) rfl rfl rfl (by kernel_rfl) (by kernel_rfl) (by kernel_rfl) (fun _ _ _ h => h) (fun w' _ => by go_simp) hS1 ?_
     simp only [Act.put, List.setIfInBounds_toArray, List.set_cons_zero, List.set_cons_succ]
     refine takeS (i := 2) (d := 29) (v := .pointer (some ⟨L, k, none⟩)) rfl rfl rfl (by kernel_rfl) (by kernel_rfl) (by kernel_rfl) (fun _ _ _ h => h) (fun w' _ => by go_simp) hS1 ?_
     simp only [Act.put, List.setIfInBounds_toArray, List.set_cons_zero, List.set_cons_succ]
     refine takeS (i := 3) (d := 30) (v := .slice (some ⟨g, 0, none⟩) nk (c k)) rfl rfl rfl (by kernel_rfl) (by kernel_rfl) (by kernel_rfl) (fun _ _ _ h => h) (fun w' hw => by (have hc := hw; go_simp)) hS1 ?_
     simp only [Act.put, List.setIfInBounds_toArray, List.set_cons_zero, List.set_cons_succ]
     refine takeS (i := 4) (d := 31) (v := .int .i64 (i : Int)) rfl rfl rfl (by kernel_rfl) (by kernel_rfl) (by kernel_rfl) (fun _ _ _ h => h) (fun w' _ => by go_simp) hS1 ?_
     simp only [Act.put, List.setIfInBounds_toArray, List.set_cons_zero, List.set_cons_succ]
     refine takeS (i := 5) (d := 32) (v := .int .i64 (k : Int)) rfl rfl rfl (by kernel_rfl) (by kernel_rfl) (by kernel_rfl) (fun _ _ _ h => h) (fun w' _ => by go_simp) hS1 ?_
     simp only [Act.put, List.setIfInBounds_toArray, List.set_cons_zero, List.set_cons_succ]
     refine takeS (i := 6) (d := 33) (v := .int .i64 (i : Int)) rfl rfl rfl (by kernel_rfl) (by kernel_rfl) (by kernel_rfl) (fun _ _ _ h => h) (fun w' _ => by go_simp) hS1 ?_
     simp only [Act.put, List.setIfInBounds_toArray, List.set_cons_zero, List.set_cons_succ]
     refine wpAnyH_ready (rs := [7]) (by kernel_rfl) (by simp) ?_
     refine AllReadyH.cons rfl (fun K hK => ?_) AllReadyH.nil
     go_simp
     refine (HMKH.out _).mono ?_
     rintro e w5 ⟨rfl, rfl⟩
     refine hK.out _ _ HCG.out (fun hS2 => ?_)
     clear hK K
     refine takeS (i := 8) (d := 35) (v := .pointer (some ⟨g, i, none⟩)) rfl rfl rfl (by kernel_rfl) (by kernel_rfl) (by kernel_rfl) (fun _ _ _ h => h) (fun w' _ => by go_simp) hS2 ?_
     simp only [Act.put, List.setIfInBounds_toArray, List.set_cons_zero, List.set_cons_succ]
     refine wpAnyH_ready (rs := [9]) (by kernel_rfl) (by simp) ?_
     refine AllReadyH.cons rfl (fun K hK => ?_) AllReadyH.nil
     rw [if_pos (by rfl)]
     have cE' : wr.drew.cell? ⟨g, i, none⟩ = some u0 := cE
     have fE' : wr.drew.frozen? ⟨g, i, none⟩ = false := fE
     go_simp
     have hLg : L ≠ g := HL2.out.far hlt HA.out
     refine hK.out _ _ ((World.cell?_setCell_other _ _ _ _ (by simp)).trans hS2) (fun _ => ?_)
     clear hK K hS1 hS2 hLg
     refine wpAnyH_done (by kernel_rfl) ?_ _
     obtain ⟨w6, hw6⟩ : ∃ w6, (wr.setCell ⟨g, i, none⟩ (.int .u8 z)).drew = w6 := ⟨_, rfl⟩
     have hlX := XA_len (HL2.out.own k hlt).len (by rw [HNK.out]; exact hlt2)
     have HP6 : Hid (Lists 5 32 N L A n c (XA mkBV n X k (i + 1)) w6) := by
      rw [← hw6, ← XA_next hlX (by rw [HNK.out]; exact hlt2)]
      have := HPUT.out
      unfold mkBV
      rw [HZE.out]
      exact Lib.hid this
     have HB7 : Hid (Kp N A w w6) := by rw [← hw6]; exact Lib.hid (HB2.out.put hlt HA.out hgN i _).drew
     clear hlX HPUT
     rw [hw6]
     clear hw6
     go_wp2_with fail
     go_roundw
     case rel =>
      exact ⟨i + 1, by omega, by go_num, HP6.out, HB7.out⟩
     case measure => simp [intOf]; omega
    ·obtain rfl : i = n k := by omega
     have HN1 : Hid (Lists 5 32 N L A n c (XA mkBV n X (k + 1) 0) wr) := by
      rw [← XA_done (HL2.out.own k hlt).len]; exact HL2
     obtain ⟨nk, hnke⟩ : ∃ nk, n k = nk := ⟨_, rfl⟩
     rw [hnke] at cT ⊢
     clear hnke
     go_wp2_with fail
     go_roundw
     case rel => exact ⟨k + 1, by omega, by go_num, HN1.out, HB2.out⟩
     case measure => simp [intOf]; omega
  ·obtain rfl : k = 2 := by omega
   have HG0 : Hid (Grw 5 32 N L wr.heap.size A n c (fun j => markL mkBV j (n j)) (fun j => (markL mkBV j (n j + 64)).drop (n j)) (fun _ => none) (fun _ => 0) 0 (.slice none 0 0) wr) :=
    Lib.hid (Grw.start (HLS.out.congr (fun q hq => XA_all _ _ _ hq)) rfl)
   have hLs : L < wr.heap.size := by omega
   rw [show ((2 : Nat) : Int) = (2 : Int) from rfl]
   obtain ⟨Z, hZe⟩ : ∃ Z, wr.heap.size = Z := ⟨_, rfl⟩
   rw [hZe] at HG0 hLs
   have hZw : N ≤ Z := by omega
   have hZ0 : w.heap.size ≤ Z := by omega
   have hZr : Z ≤ wr.heap.size := by omega
   clear hlt hk HLS hZe
   go_wp2_with fail
   obtain ⟨wo, hwo⟩ : ∃ wo : World, wo = wr := ⟨_, rfl⟩
   subst hwo
   go_loopw [5, 6] (fun v5 v6 wy => ∃ (k : Nat) (ao5 : Option Addr) (c5 : Nat) (G : Nat → Option Addr) (C : Nat → Nat), k ≤ 2 ∧ v6 = .int .i64 (k : Int) ∧ v5 = .slice ao5 k c5 ∧ Grw 5 32 N L Z A n c (fun j => markL mkBV j (n j)) (fun j => (markL mkBV j (n j + 64)).drop (n j)) G C k (.slice ao5 k c5) wy ∧ Kp N A w wy ∧ Z ≤ wy.heap.size) (fun _ v6 _ => 2 - (intOf v6).toNat)
   case atStart => exact ⟨0, none, 0, _, _, by omega, rfl, rfl, HG0.out, HB.out, hZr⟩
   case round =>
    obtain ⟨k, ao5, c5, G, C, hk, rfl, rfl, hgw, hb, hZy⟩ := hrel
    have HGW := Lib.hid hgw
    have HB2 := Lib.hid hb
    clear hgw hb HG0
    by_cases hlt : k < 2
    ·have cT := HGW.out.ls.cell hlt
     have k0 : (0 : Int) ≤ (k : Int) := by omega
     have k1 : (k : Int) < 2 := by omega
     have HRS : Hid (Rg 5 32 N L A n c (fun j => markL mkBV j (n j)) (fun j => (markL mkBV j (n j + 64)).drop (n j)) k 0 (A k) (c k) wr wr) := Lib.hid (Rg.start HGW.out.ls hlt)
     have hnk := HN.out k
     go_wp2_with fail
     clear cT
     obtain ⟨wo2, hwo2⟩ : ∃ wo2 : World, wo2 = wr := ⟨_, rfl⟩
     subst hwo2
     go_loopw [7, 8] (fun v7 v8 wy => ∃ (i : Nat) (ao : Option Addr) (cap : Nat), i ≤ 64 ∧ v8 = .int .i64 (i : Int) ∧ v7 = .slice ao (n k + i) cap ∧ Rg 5 32 N L A n c (fun j => markL mkBV j (n j)) (fun j => (markL mkBV j (n j + 64)).drop (n j)) k i ao cap wo2 wy) (fun _ v8 _ => 64 - (intOf v8).toNat)
     case atStart => exact ⟨0, A k, c k, by omega, rfl, rfl, HRS.out⟩
     case round =>
      obtain ⟨i, ao, cap, hi, rfl, rfl, hrg⟩ := hrel
      have HRG := Lib.hid hrg
      have hsz := hrg.bel.size
      have cT := hrg.ls.cell hlt
      clear hrg HRS
      by_cases hlt2 : i < 64
      ·have HMK := markB_any k ((n k + i : Nat) : Int) (by omega) (by omega)
       unfold MarkBOut at HMK
       have HNX := fun (ao' : Option Addr) (cap' : Nat) (w6 : World) => @Rg.next 5 32 N L A n c (fun j => markL mkBV j (n j)) (fun j => (markL mkBV j (n j + 64)).drop (n j)) k i ao ao' cap cap' wo2 wr wr w6 HRG.out hlt (fun j g hj hg => (HGW.out.ls.lt hj hg).2) (Below.refl _ _)
       have HOWN := HRG.out.own
       have HMT : Hid (∀ m, m ≤ 64 → markL mkBV k (n k) ++ ((markL mkBV k (n k + 64)).drop (n k)).take m = markL mkBV k (n k + m)) := Lib.hid (fun m hm => markL_parts mkBV k (n k) m hm)
       rw [HMT.out i (by omega)] at HOWN
       simp only [HMT.out (i + 1) (by omega)] at HNX
       clear HMT
       obtain ⟨nk, hnke⟩ : ∃ nk, n k = nk := ⟨_, rfl⟩
       rw [hnke] at HMK HNX HOWN cT hnk ⊢
       have hz : mkBV k (nk + i) = .int .u8 (mkB (k : Int) ((nk + i : Nat) : Int)) := rfl
       have HZ := Lib.hid hz
       rw [show ((nk + i : Nat) : Int) = (nk : Int) + (i : Int) by omega] at HMK HZ
       have HMKH := Lib.hid HMK
       have HNXH := Lib.hid HNX
       have HOWNH := Lib.hid HOWN
       clear HMK HNX HOWN hnke hz
       have s1 : IntKind.i64.wrap ((nk : Int) + (i : Int)) = (nk : Int) + (i : Int) := IntWalk.i64_in _ (by omega)
       have hs5 : N ≤ wr.heap.size := by omega
       generalize mkB (k : Int) ((nk : Int) + (i : Int)) = z at *
       go_wp2_with fail
       refine (HMKH.out _).mono ?_
       rintro e w5 ⟨rfl, rfl⟩
       clear cT HMKH
       go_wp2_with (at_builtin; refine app_one Tryz.underlying32 infoEB rfl rfl _ _ rfl N rfl HOWNH.out rfl rfl (by omega) (by omega) hs5 ?_; intro ao6 c6 w6 hown6 hk6 hat6 hb6)
       have HR6 := Lib.hid (HNXH.out ao6 c6 w6 (by rw [show nk + (i + 1) = (nk + i) + 1 from rfl, markL_succ, HZ.out]; exact hown6) hk6 hat6 hb6 (by omega))
       clear hown6 hk6 hat6 hb6 HNXH HOWNH s1
       go_wp2_with fail
       go_roundw
       case rel => exact ⟨i + 1, ao6, c6, by omega, by go_num, rfl, HR6.out⟩
       case measure => simp [intOf]; omega
      ·obtain rfl : i = 64 := by omega
       have HGS : Hid (wr.ownsRow Z 32 1 (.slice ao5 k c5) k ((List.range k).map fun j => .slice (G j) (n j + 64) (C j))) :=
        Lib.hid (own_keepV HGW.out.gs (fun b hb => HRG.out.keep b (HGW.out.gs.lt b hb).2 (fun e => own_own_ne HGW.out.gs (HGW.out.ls.own k hlt).own (by decide) (by rw [e]; rfl) hb)))
       have hZs : Z ≤ wr.heap.size := by omega
       have HNX := fun (ao6 : Option Addr) (c6 : Nat) (w6 : World) (o : Obj) => @Grw.next 5 32 N L Z A n c (fun j => markL mkBV j (n j)) (fun j => (markL mkBV j (n j + 64)).drop (n j)) G C k c5 c6 cap ao5 ao6 ao wo2 wr w6 o HGW.out (by omega) hZy hlt (by simp [markL]) HRG.out
       have HNXH := Lib.hid HNX
       clear HNX cT
       go_upto_region 11 with (at_builtin; refine app_gen Tryz.underlying103 infoLB rfl (by decide) rfl _ _ rfl Z rfl HGS.out rfl rfl (by simp [Value.oneCell']) (by omega) (by omega) hZs ?_; intro ao6 c6 w6 hown6 hg6 hb6 hs6)
       have HG6 := Lib.hid (HNXH.out ao6 c6 w6 _ hown6 hg6)
       have HB6 : Hid (Kp N A w w6) := Lib.hid ((HB2.out.rg HRG.out hlt).below hb6 hZ0 hZw)
       have hZ6 : Z ≤ w6.heap.size := by omega
       clear hown6 hg6 hb6 HNXH HGS HRG
       go_wp2_with fail
       go_roundw
       case rel => exact ⟨k + 1, ao6, c6, _, _, by omega, by go_num, rfl, HG6.out, HB6.out, hZ6⟩
       case measure => simp [intOf]; omega
    ·obtain rfl : k = 2 := by omega
     obtain ⟨gg, rfl⟩ : ∃ gg, ao5 = some ⟨gg, 0, none⟩ := by
      rcases HGW.out.gs.2 with ⟨_, h0⟩ | ⟨g, cap', cur, e, _⟩
      ·omega
      ·injection e with e _ _; exact ⟨g, e⟩
     have hgs : ∀ j, j < 2 → wr.cell? ⟨gg, j, none⟩ = some (.slice (G j) (n j + 64) (C j)) := by
      intro j hj
      rw [World.ownsRow.cellAt HGW.out.gs j (by omega)]
      have : j = 0 ∨ j = 1 := by omega
      rcases this with rfl | rfl <;> rfl
     have hgl := (HGW.out.gs.lt gg rfl).2
     have HGC := Lib.hid hgs
     have HNW : Hid (∀ j, j < 2 → OwnV 5 wr N (G j) (n j + 64) (C j) (markL mkBV j (n j + 64))) := Lib.hid (fun j hj => by
      have := HGW.out.new j hj
      have e := markL_parts mkBV j (n j) 64 (Nat.le_refl _)
      rw [List.take_of_length_le (by simp [markL])] at e
      rw [← e]; exact this)
     have hLw : L < wr.heap.size := HGW.out.ls.tabLt
     rw [show ((2 : Nat) : Int) = (2 : Int) from rfl]
     clear hgs hk hlt
     go_wp2_with fail
     obtain ⟨wz, hwz⟩ : ∃ wz : World, wz = wr := ⟨_, rfl⟩
     subst hwz
     go_loopw [9] (fun v wy => ∃ k : Nat, k ≤ 2 ∧ v = .int .i64 (k : Int) ∧ Below wz.heap.size wz wy) (fun v _ => 2 - (intOf v).toNat)
     case atStart => exact ⟨0, by omega, rfl, Below.refl _ _⟩
     case round =>
      obtain ⟨k, hk, rfl, hb⟩ := hrel
      have HBZ := Lib.hid hb
      have hszz := hb.size
      clear hb
      by_cases hlt : k < 2
      ·have k0 : (0 : Int) ≤ (k : Int) := by omega
       have k1 : (k : Int) < 2 := by omega
       go_wp2_with fail
       obtain ⟨wo2, hwo2⟩ : ∃ wo2 : World, wo2 = wr := ⟨_, rfl⟩
       subst hwo2
       go_loopw [10] (fun v wy => ∃ i : Nat, i ≤ n k + 64 ∧ v = .int .i64 (i : Int) ∧ Below wz.heap.size wz wy) (fun v _ => (n k + 64) - (intOf v).toNat)
       case atStart => exact ⟨0, by omega, rfl, HBZ.out⟩
       case round =>
        obtain ⟨i, hi, rfl, hb⟩ := hrel
        have HBY := Lib.hid hb
        have hszy := hb.size
        have cG := (hb.cell (p := ⟨gg, k, none⟩) hgl).trans (HGC.out k hlt)
        have cT := (hb.cell (p := ⟨L, k, none⟩) hLw).trans (HGW.out.ls.cell hlt)
        have hnk := HN.out k
        clear hb HBZ
        by_cases hlt2 : i < n k + 64
        ·have HMK := markB_any k i (by omega) (by omega)
         unfold MarkBOut at HMK
         have HMKH := Lib.hid HMK
         have i0 : (0 : Int) ≤ (i : Int) := by omega
         obtain ⟨bg, heg, _, hbg, hatg⟩ := (HNW.out k hlt).cell (markL_get mkBV k _ i hlt2)
         replace hatg := (HBY.out.cell (p := ⟨bg, i, none⟩) hbg).trans hatg
         unfold mkBV at hatg
         by_cases hlt3 : i < n k
         ·obtain ⟨ba, hea, _, hba, hata⟩ := (HGW.out.ls.own k hlt).cell (markL_get mkBV k _ i hlt3)
          replace hata := (HBY.out.cell (p := ⟨ba, i, none⟩) hba).trans hata
          unfold mkBV at hata
          have g1 : decide (i < n k) = true := by simpa using hlt3
          have g2 : (i : Int) < (n k : Int) := by omega
          have g3 : (i : Int) < (n k : Int) + 64 := by omega
          rw [heg] at cG
          rw [hea] at cT
          generalize n k = nk at *
          generalize mkB (k : Int) (i : Int) = z at *
          have q1 : (z != z) = false := by simp
          clear HMK
          go_wp2_with fail
          refine (HMKH.out _).mono ?_
          rintro e w5 ⟨rfl, rfl⟩
          clear HMKH
          go_wp2_with fail
          go_roundw
          case rel => exact ⟨i + 1, by omega, by go_num, HBY.out⟩
          case measure => simp [intOf]; omega
         ·have g1 : decide (i < n k) = false := by simpa using hlt3
          have g2 : ¬ (i : Int) < (n k : Int) := by omega
          have g3 : (i : Int) < (n k : Int) + 64 := by omega
          rw [heg] at cG
          generalize n k = nk at *
          generalize mkB (k : Int) (i : Int) = z at *
          have q1 : (z != z) = false := by simp
          clear HMK
          go_wp2_with fail
          refine (HMKH.out _).mono ?_
          rintro e w5 ⟨rfl, rfl⟩
          clear HMKH
          go_wp2_with fail
          go_roundw
          case rel => exact ⟨i + 1, by omega, by go_num, HBY.out⟩
          case measure => simp [intOf]; omega
        ·obtain rfl : i = n k + 64 := by omega
         generalize n k = nk at *
         go_wp2_with fail
         go_roundw
         case rel => exact ⟨k + 1, by omega, by go_num, HBY.out⟩
         case measure => simp [intOf]; omega
      ·obtain rfl : k = 2 := by omega
       go_wp2_with fail
       go_ret
       exact ⟨rfl, HB2.out.below HBZ.out (by have := HB2.out.bel.size; omega) (by omega)⟩

end One
end Code
end Go.Proofs.YtmpeipdeablkdaaGreatDoor

namespace Go.Proofs.YtmpeipdeablkdaaGreatDoor
open Go.RowKit

namespace Code
namespace One

attribute [local go_sem ↓] Go.wp_at_zero Go.wp_at_succ

theorem infoLN : (Tryz.prog.info? 33).map (fun i => (i.zero, i.size, i.bytes)) = some (some (.slice none 0 0), 1, 24) := by kernel_rfl

set_option maxRecDepth 100000 in
set_option maxHeartbeats 12800000 in
theorem apartN_any (N L : Nat) (A : Nat → Option Addr) (n c : Nat → Nat) (X : Nat → List Value) (cl : Nat) (w : World) (h : Lists 22 33 N L A n c X w) (hn : ∀ k, n k ≤ 20000) (hN : N ≤ w.heap.size) (hNL : N ≤ L) :
    Calls Tryz.prog 116 #[.slice (some ⟨L, 0, none⟩) 2 cl] w fun e w' => e = .returned (.bool true) ∧ Kp N A w w' := by
 have H0 := Lib.hid h
 have HN := Lib.hid hn
 have hL := h.tabLt
 clear h hn
 go_enter Tryz.func116, Tryz.ntmps116
 go_wp2_with fail
 go_loopw [3] (fun v wr => ∃ k : Nat, k ≤ 2 ∧ v = .int .i64 k ∧ Lists 22 33 N L A n c (XA mkNV n X k 0) wr ∧ Kp N A w wr) (fun v _ => 2 - (intOf v).toNat)
 case atStart => exact ⟨0, by omega, rfl, by rw [XA_start]; exact H0.out, Kp.refl _ _ _⟩
 case round =>
  obtain ⟨k, hk, rfl, hls, hb⟩ := hrel
  have HLS := Lib.hid hls
  have HB := Lib.hid hb
  have hsz := hb.bel.size
  clear hls hb H0
  by_cases hlt : k < 2
  ·have k0 : (0 : Int) ≤ (k : Int) := by omega
   have k1 : (k : Int) < 2 := by omega
   go_wp2_with fail
   obtain ⟨wo, hwo⟩ : ∃ wo : World, wo = wr := ⟨_, rfl⟩
   subst hwo
   go_loopw [4] (fun v wy => ∃ i : Nat, i ≤ n k ∧ v = .int .i64 i ∧ Lists 22 33 N L A n c (XA mkNV n X k i) wy ∧ Kp N A w wy) (fun v _ => n k - (intOf v).toNat)
   case atStart =>
    exact ⟨0, by omega, rfl, HLS.out, HB.out⟩
   case round =>
    obtain ⟨i, hi, rfl, hls2, hb2⟩ := hrel
    have HL2 := Lib.hid hls2
    have HB2 := Lib.hid hb2
    have hsz2 := hb2.bel.size
    have hszN : N ≤ wr.heap.size := by omega
    have cT := hls2.cell hlt
    have hnk := HN.out k
    clear hls2 hb2 HLS HB
    by_cases hlt2 : i < n k
    ·obtain ⟨g, hA, hgN, hgw⟩ := HL2.out.blk hlt hlt2
     have HCT := Lib.hid cT
     have HA := Lib.hid hA
     rw [hA] at cT
     generalize hnke : n k = nk at *
     have HNK := Lib.hid hnke
     clear hnke
     have i0 : (0 : Int) ≤ (i : Int) := by omega
     have i1 : (i : Int) < (nk : Int) := by omega
     have HCG : Hid (wr.cell? ⟨L, k, none⟩ = some (.slice (some ⟨g, 0, none⟩) nk (c k))) := cT
     have ho := HL2.out.own k hlt
     rw [HA.out, HNK.out] at ho
     obtain ⟨u0, hu0⟩ : ∃ u, (XA mkNV n X k i k)[i]? = some u := ⟨_, List.getElem?_eq_getElem (by rw [← ho.len]; exact hlt2)⟩
     have cE : wr.cell? ⟨g, i, none⟩ = some u0 := by rw [World.ownsRow.cellAt ho.own i (by omega), hu0]
     have fE : wr.frozen? ⟨g, i, none⟩ = false := World.ownsRow.frozenAt ho.own i
     have HPUT := Lib.hid ((HL2.out.put hlt HA.out i (mkNV k i)).below (Below.refl _ _).drew)
     have HMK := markN_any k i (by omega) (by omega)
     unfold MarkNOut at HMK
     unfold mkNV at HPUT
     have HMKH := Lib.hid HMK
     clear HMK ho hu0
     obtain ⟨z, hz⟩ : ∃ z, mkN (k : Int) (i : Int) = z := ⟨_, rfl⟩
     rw [hz] at HMKH HPUT
     have HZE := Lib.hid hz
     clear hz
     go_wp2_with fail
     clear cT
     refine wp_region_held_drew (S := fun w' => w'.cell? ⟨L, k, none⟩ = some (.slice (some ⟨g, 0, none⟩) nk (c k))) (by kernel_rfl) HCG.out (fun hS1 => ?_)
     refine takeS (i := 0) (d := 27) (v := .slice (some ⟨L, 0, none⟩) 2 cl) rfl rfl rfl (by kernel_rfl) (by kernel_rfl) (by kernel_rfl) (fun _ _ _ h => h) (fun w' _ => by go_simp) hS1 ?_
     simp only [Act.put, List.setIfInBounds_toArray, List.set_cons_zero, List.set_cons_succ]
     refine takeS (i := 1) (d := 28) (v := .int .i64 (k : Int)) rfl rfl rfl (by kernel_rfl) (by kernel_rfl) (by kernel_rfl) (fun _ _ _ h => h) (fun w' _ => by go_simp) hS1 ?_
     simp only [Act.put, List.setIfInBounds_toArray, List.set_cons_zero, List.set_cons_succ]
     refine takeS (i := 2) (d := 29) (v := .pointer (some ⟨L, k, none⟩)) rfl rfl rfl (by kernel_rfl) (by kernel_rfl) (by kernel_rfl) (fun _ _ _ h => h) (fun w' _ => by go_simp) hS1 ?_
     simp only [Act.put, List.setIfInBounds_toArray, List.set_cons_zero, List.set_cons_succ]
     refine takeS (i := 3) (d := 30) (v := .slice (some ⟨g, 0, none⟩) nk (c k)) rfl rfl rfl (by kernel_rfl) (by kernel_rfl) (by kernel_rfl) (fun _ _ _ h => h) (fun w' hw => by (have hc := hw; go_simp)) hS1 ?_
     simp only [Act.put, List.setIfInBounds_toArray, List.set_cons_zero, List.set_cons_succ]
     refine takeS (i := 4) (d := 31) (v := .int .i64 (i : Int)) rfl rfl rfl (by kernel_rfl) (by kernel_rfl) (by kernel_rfl) (fun _ _ _ h => h) (fun w' _ => by go_simp) hS1 ?_
     simp only [Act.put, List.setIfInBounds_toArray, List.set_cons_zero, List.set_cons_succ]
     refine takeS (i := 5) (d := 32) (v := .int .i64 (k : Int)) rfl rfl rfl (by kernel_rfl) (by kernel_rfl) (by kernel_rfl) (fun _ _ _ h => h) (fun w' _ => by go_simp) hS1 ?_
     simp only [Act.put, List.setIfInBounds_toArray, List.set_cons_zero, List.set_cons_succ]
     refine takeS (i := 6) (d := 33) (v := .int .i64 (i : Int)) rfl rfl rfl (by kernel_rfl) (by kernel_rfl) (by kernel_rfl) (fun _ _ _ h => h) (fun w' _ => by go_simp) hS1 ?_
     simp only [Act.put, List.setIfInBounds_toArray, List.set_cons_zero, List.set_cons_succ]
     refine wpAnyH_ready (rs := [7]) (by kernel_rfl) (by simp) ?_
     refine AllReadyH.cons rfl (fun K hK => ?_) AllReadyH.nil
     go_simp
     refine (HMKH.out _).mono ?_
     rintro e w5 ⟨rfl, rfl⟩
     refine hK.out _ _ HCG.out (fun hS2 => ?_)
     clear hK K
     refine takeS (i := 8) (d := 35) (v := .pointer (some ⟨g, i, none⟩)) rfl rfl rfl (by kernel_rfl) (by kernel_rfl) (by kernel_rfl) (fun _ _ _ h => h) (fun w' _ => by go_simp) hS2 ?_
     simp only [Act.put, List.setIfInBounds_toArray, List.set_cons_zero, List.set_cons_succ]
     refine wpAnyH_ready (rs := [9]) (by kernel_rfl) (by simp) ?_
     refine AllReadyH.cons rfl (fun K hK => ?_) AllReadyH.nil
     rw [if_pos (by rfl)]
     have cE' : wr.drew.cell? ⟨g, i, none⟩ = some u0 := cE
     have fE' : wr.drew.frozen? ⟨g, i, none⟩ = false := fE
     go_simp
     have hLg : L ≠ g := HL2.out.far hlt HA.out
     refine hK.out _ _ ((World.cell?_setCell_other _ _ _ _ (by simp)).trans hS2) (fun _ => ?_)
     clear hK K hS1 hS2 hLg
     refine wpAnyH_done (by kernel_rfl) ?_ _
     obtain ⟨w6, hw6⟩ : ∃ w6, (wr.setCell ⟨g, i, none⟩ (.int .u64 z)).drew = w6 := ⟨_, rfl⟩
     have hlX := XA_len (HL2.out.own k hlt).len (by rw [HNK.out]; exact hlt2)
     have HP6 : Hid (Lists 22 33 N L A n c (XA mkNV n X k (i + 1)) w6) := by
      rw [← hw6, ← XA_next hlX (by rw [HNK.out]; exact hlt2)]
      have := HPUT.out
      unfold mkNV
      rw [HZE.out]
      exact Lib.hid this
     have HB7 : Hid (Kp N A w w6) := by rw [← hw6]; exact Lib.hid (HB2.out.put hlt HA.out hgN i _).drew
     clear hlX HPUT
     rw [hw6]
     clear hw6
     go_wp2_with fail
     go_roundw
     case rel =>
      exact ⟨i + 1, by omega, by go_num, HP6.out, HB7.out⟩
     case measure => simp [intOf]; omega
    ·obtain rfl : i = n k := by omega
     have HN1 : Hid (Lists 22 33 N L A n c (XA mkNV n X (k + 1) 0) wr) := by
      rw [← XA_done (HL2.out.own k hlt).len]; exact HL2
     obtain ⟨nk, hnke⟩ : ∃ nk, n k = nk := ⟨_, rfl⟩
     rw [hnke] at cT ⊢
     clear hnke
     go_wp2_with fail
     go_roundw
     case rel => exact ⟨k + 1, by omega, by go_num, HN1.out, HB2.out⟩
     case measure => simp [intOf]; omega
  ·obtain rfl : k = 2 := by omega
   have HG0 : Hid (Grw 22 33 N L wr.heap.size A n c (fun j => markL mkNV j (n j)) (fun j => (markL mkNV j (n j + 64)).drop (n j)) (fun _ => none) (fun _ => 0) 0 (.slice none 0 0) wr) :=
    Lib.hid (Grw.start (HLS.out.congr (fun q hq => XA_all _ _ _ hq)) rfl)
   have hLs : L < wr.heap.size := by omega
   rw [show ((2 : Nat) : Int) = (2 : Int) from rfl]
   obtain ⟨Z, hZe⟩ : ∃ Z, wr.heap.size = Z := ⟨_, rfl⟩
   rw [hZe] at HG0 hLs
   have hZw : N ≤ Z := by omega
   have hZ0 : w.heap.size ≤ Z := by omega
   have hZr : Z ≤ wr.heap.size := by omega
   clear hlt hk HLS hZe
   go_wp2_with fail
   obtain ⟨wo, hwo⟩ : ∃ wo : World, wo = wr := ⟨_, rfl⟩
   subst hwo
   go_loopw [5, 6] (fun v5 v6 wy => ∃ (k : Nat) (ao5 : Option Addr) (c5 : Nat) (G : Nat → Option Addr) (C : Nat → Nat), k ≤ 2 ∧ v6 = .int .i64 (k : Int) ∧ v5 = .slice ao5 k c5 ∧ Grw 22 33 N L Z A n c (fun j => markL mkNV j (n j)) (fun j => (markL mkNV j (n j + 64)).drop (n j)) G C k (.slice ao5 k c5) wy ∧ Kp N A w wy ∧ Z ≤ wy.heap.size) (fun _ v6 _ => 2 - (intOf v6).toNat)
   case atStart => exact ⟨0, none, 0, _, _, by omega, rfl, rfl, HG0.out, HB.out, hZr⟩
   case round =>
    obtain ⟨k, ao5, c5, G, C, hk, rfl, rfl, hgw, hb, hZy⟩ := hrel
    have HGW := Lib.hid hgw
    have HB2 := Lib.hid hb
    clear hgw hb HG0
    by_cases hlt : k < 2
    ·have cT := HGW.out.ls.cell hlt
     have k0 : (0 : Int) ≤ (k : Int) := by omega
     have k1 : (k : Int) < 2 := by omega
     have HRS : Hid (Rg 22 33 N L A n c (fun j => markL mkNV j (n j)) (fun j => (markL mkNV j (n j + 64)).drop (n j)) k 0 (A k) (c k) wr wr) := Lib.hid (Rg.start HGW.out.ls hlt)
     have hnk := HN.out k
     go_wp2_with fail
     clear cT
     obtain ⟨wo2, hwo2⟩ : ∃ wo2 : World, wo2 = wr := ⟨_, rfl⟩
     subst hwo2
     go_loopw [7, 8] (fun v7 v8 wy => ∃ (i : Nat) (ao : Option Addr) (cap : Nat), i ≤ 64 ∧ v8 = .int .i64 (i : Int) ∧ v7 = .slice ao (n k + i) cap ∧ Rg 22 33 N L A n c (fun j => markL mkNV j (n j)) (fun j => (markL mkNV j (n j + 64)).drop (n j)) k i ao cap wo2 wy) (fun _ v8 _ => 64 - (intOf v8).toNat)
     case atStart => exact ⟨0, A k, c k, by omega, rfl, rfl, HRS.out⟩
     case round =>
      obtain ⟨i, ao, cap, hi, rfl, rfl, hrg⟩ := hrel
      have HRG := Lib.hid hrg
      have hsz := hrg.bel.size
      have cT := hrg.ls.cell hlt
      clear hrg HRS
      by_cases hlt2 : i < 64
      ·have HMK := markN_any k ((n k + i : Nat) : Int) (by omega) (by omega)
       unfold MarkNOut at HMK
       have HNX := fun (ao' : Option Addr) (cap' : Nat) (w6 : World) => @Rg.next 22 33 N L A n c (fun j => markL mkNV j (n j)) (fun j => (markL mkNV j (n j + 64)).drop (n j)) k i ao ao' cap cap' wo2 wr wr w6 HRG.out hlt (fun j g hj hg => (HGW.out.ls.lt hj hg).2) (Below.refl _ _)
       have HOWN := HRG.out.own
       have HMT : Hid (∀ m, m ≤ 64 → markL mkNV k (n k) ++ ((markL mkNV k (n k + 64)).drop (n k)).take m = markL mkNV k (n k + m)) := Lib.hid (fun m hm => markL_parts mkNV k (n k) m hm)
       rw [HMT.out i (by omega)] at HOWN
       simp only [HMT.out (i + 1) (by omega)] at HNX
       clear HMT
       obtain ⟨nk, hnke⟩ : ∃ nk, n k = nk := ⟨_, rfl⟩
       rw [hnke] at HMK HNX HOWN cT hnk ⊢
       have hz : mkNV k (nk + i) = .int .u64 (mkN (k : Int) ((nk + i : Nat) : Int)) := rfl
       have HZ := Lib.hid hz
       rw [show ((nk + i : Nat) : Int) = (nk : Int) + (i : Int) by omega] at HMK HZ
       have HMKH := Lib.hid HMK
       have HNXH := Lib.hid HNX
       have HOWNH := Lib.hid HOWN
       clear HMK HNX HOWN hnke hz
       have s1 : IntKind.i64.wrap ((nk : Int) + (i : Int)) = (nk : Int) + (i : Int) := IntWalk.i64_in _ (by omega)
       have hs5 : N ≤ wr.heap.size := by omega
       generalize mkN (k : Int) ((nk : Int) + (i : Int)) = z at *
       go_wp2_with fail
       refine (HMKH.out _).mono ?_
       rintro e w5 ⟨rfl, rfl⟩
       clear cT HMKH
       go_wp2_with (at_builtin; refine app_one Tryz.underlying33 infoEN rfl rfl _ _ rfl N rfl HOWNH.out rfl rfl (by omega) (by omega) hs5 ?_; intro ao6 c6 w6 hown6 hk6 hat6 hb6)
       have HR6 := Lib.hid (HNXH.out ao6 c6 w6 (by rw [show nk + (i + 1) = (nk + i) + 1 from rfl, markL_succ, HZ.out]; exact hown6) hk6 hat6 hb6 (by omega))
       clear hown6 hk6 hat6 hb6 HNXH HOWNH s1
       go_wp2_with fail
       go_roundw
       case rel => exact ⟨i + 1, ao6, c6, by omega, by go_num, rfl, HR6.out⟩
       case measure => simp [intOf]; omega
      ·obtain rfl : i = 64 := by omega
       have HGS : Hid (wr.ownsRow Z 33 1 (.slice ao5 k c5) k ((List.range k).map fun j => .slice (G j) (n j + 64) (C j))) :=
        Lib.hid (own_keepV HGW.out.gs (fun b hb => HRG.out.keep b (HGW.out.gs.lt b hb).2 (fun e => own_own_ne HGW.out.gs (HGW.out.ls.own k hlt).own (by decide) (by rw [e]; rfl) hb)))
       have hZs : Z ≤ wr.heap.size := by omega
       have HNX := fun (ao6 : Option Addr) (c6 : Nat) (w6 : World) (o : Obj) => @Grw.next 22 33 N L Z A n c (fun j => markL mkNV j (n j)) (fun j => (markL mkNV j (n j + 64)).drop (n j)) G C k c5 c6 cap ao5 ao6 ao wo2 wr w6 o HGW.out (by omega) hZy hlt (by simp [markL]) HRG.out
       have HNXH := Lib.hid HNX
       clear HNX cT
       go_upto_region 11 with (at_builtin; refine app_gen Tryz.underlying106 infoLN rfl (by decide) rfl _ _ rfl Z rfl HGS.out rfl rfl (by simp [Value.oneCell']) (by omega) (by omega) hZs ?_; intro ao6 c6 w6 hown6 hg6 hb6 hs6)
       have HG6 := Lib.hid (HNXH.out ao6 c6 w6 _ hown6 hg6)
       have HB6 : Hid (Kp N A w w6) := Lib.hid ((HB2.out.rg HRG.out hlt).below hb6 hZ0 hZw)
       have hZ6 : Z ≤ w6.heap.size := by omega
       clear hown6 hg6 hb6 HNXH HGS HRG
       go_wp2_with fail
       go_roundw
       case rel => exact ⟨k + 1, ao6, c6, _, _, by omega, by go_num, rfl, HG6.out, HB6.out, hZ6⟩
       case measure => simp [intOf]; omega
    ·obtain rfl : k = 2 := by omega
     obtain ⟨gg, rfl⟩ : ∃ gg, ao5 = some ⟨gg, 0, none⟩ := by
      rcases HGW.out.gs.2 with ⟨_, h0⟩ | ⟨g, cap', cur, e, _⟩
      ·omega
      ·injection e with e _ _; exact ⟨g, e⟩
     have hgs : ∀ j, j < 2 → wr.cell? ⟨gg, j, none⟩ = some (.slice (G j) (n j + 64) (C j)) := by
      intro j hj
      rw [World.ownsRow.cellAt HGW.out.gs j (by omega)]
      have : j = 0 ∨ j = 1 := by omega
      rcases this with rfl | rfl <;> rfl
     have hgl := (HGW.out.gs.lt gg rfl).2
     have HGC := Lib.hid hgs
     have HNW : Hid (∀ j, j < 2 → OwnV 22 wr N (G j) (n j + 64) (C j) (markL mkNV j (n j + 64))) := Lib.hid (fun j hj => by
      have := HGW.out.new j hj
      have e := markL_parts mkNV j (n j) 64 (Nat.le_refl _)
      rw [List.take_of_length_le (by simp [markL])] at e
      rw [← e]; exact this)
     have hLw : L < wr.heap.size := HGW.out.ls.tabLt
     rw [show ((2 : Nat) : Int) = (2 : Int) from rfl]
     clear hgs hk hlt
     go_wp2_with fail
     obtain ⟨wz, hwz⟩ : ∃ wz : World, wz = wr := ⟨_, rfl⟩
     subst hwz
     go_loopw [9] (fun v wy => ∃ k : Nat, k ≤ 2 ∧ v = .int .i64 (k : Int) ∧ Below wz.heap.size wz wy) (fun v _ => 2 - (intOf v).toNat)
     case atStart => exact ⟨0, by omega, rfl, Below.refl _ _⟩
     case round =>
      obtain ⟨k, hk, rfl, hb⟩ := hrel
      have HBZ := Lib.hid hb
      have hszz := hb.size
      clear hb
      by_cases hlt : k < 2
      ·have k0 : (0 : Int) ≤ (k : Int) := by omega
       have k1 : (k : Int) < 2 := by omega
       go_wp2_with fail
       obtain ⟨wo2, hwo2⟩ : ∃ wo2 : World, wo2 = wr := ⟨_, rfl⟩
       subst hwo2
       go_loopw [10] (fun v wy => ∃ i : Nat, i ≤ n k + 64 ∧ v = .int .i64 (i : Int) ∧ Below wz.heap.size wz wy) (fun v _ => (n k + 64) - (intOf v).toNat)
       case atStart => exact ⟨0, by omega, rfl, HBZ.out⟩
       case round =>
        obtain ⟨i, hi, rfl, hb⟩ := hrel
        have HBY := Lib.hid hb
        have hszy := hb.size
        have cG := (hb.cell (p := ⟨gg, k, none⟩) hgl).trans (HGC.out k hlt)
        have cT := (hb.cell (p := ⟨L, k, none⟩) hLw).trans (HGW.out.ls.cell hlt)
        have hnk := HN.out k
        clear hb HBZ
        by_cases hlt2 : i < n k + 64
        ·have HMK := markN_any k i (by omega) (by omega)
         unfold MarkNOut at HMK
         have HMKH := Lib.hid HMK
         have i0 : (0 : Int) ≤ (i : Int) := by omega
         obtain ⟨bg, heg, _, hbg, hatg⟩ := (HNW.out k hlt).cell (markL_get mkNV k _ i hlt2)
         replace hatg := (HBY.out.cell (p := ⟨bg, i, none⟩) hbg).trans hatg
         unfold mkNV at hatg
         by_cases hlt3 : i < n k
         ·obtain ⟨ba, hea, _, hba, hata⟩ := (HGW.out.ls.own k hlt).cell (markL_get mkNV k _ i hlt3)
          replace hata := (HBY.out.cell (p := ⟨ba, i, none⟩) hba).trans hata
          unfold mkNV at hata
          have g1 : decide (i < n k) = true := by simpa using hlt3
          have g2 : (i : Int) < (n k : Int) := by omega
          have g3 : (i : Int) < (n k : Int) + 64 := by omega
          rw [heg] at cG
          rw [hea] at cT
          generalize n k = nk at *
          generalize mkN (k : Int) (i : Int) = z at *
          have q1 : (z != z) = false := by simp
          clear HMK
          go_wp2_with fail
          refine (HMKH.out _).mono ?_
          rintro e w5 ⟨rfl, rfl⟩
          clear HMKH
          go_wp2_with fail
          go_roundw
          case rel => exact ⟨i + 1, by omega, by go_num, HBY.out⟩
          case measure => simp [intOf]; omega
         ·have g1 : decide (i < n k) = false := by simpa using hlt3
          have g2 : ¬ (i : Int) < (n k : Int) := by omega
          have g3 : (i : Int) < (n k : Int) + 64 := by omega
          rw [heg] at cG
          generalize n k = nk at *
          generalize mkN (k : Int) (i : Int) = z at *
          have q1 : (z != z) = false := by simp
          clear HMK
          go_wp2_with fail
          refine (HMKH.out _).mono ?_
          rintro e w5 ⟨rfl, rfl⟩
          clear HMKH
          go_wp2_with fail
          go_roundw
          case rel => exact ⟨i + 1, by omega, by go_num, HBY.out⟩
          case measure => simp [intOf]; omega
        ·obtain rfl : i = n k + 64 := by omega
         generalize n k = nk at *
         go_wp2_with fail
         go_roundw
         case rel => exact ⟨k + 1, by omega, by go_num, HBY.out⟩
         case measure => simp [intOf]; omega
      ·obtain rfl : k = 2 := by omega
       go_wp2_with fail
       go_ret
       exact ⟨rfl, HB2.out.below HBZ.out (by have := HB2.out.bel.size; omega) (by omega)⟩

end One
end Code
end Go.Proofs.YtmpeipdeablkdaaGreatDoor

namespace Go.Proofs.YtmpeipdeablkdaaGreatDoor
open Go.RowKit

namespace Code
namespace One

/-- the first so many turned -/
def flipTo (m : Nat) (y : List Bool) : List Bool := (y.take m).map (fun b => !b) ++ y.drop m

theorem flipTo_zero (y : List Bool) : flipTo 0 y = y := by simp [flipTo]
theorem flipTo_length (m : Nat) (y : List Bool) : (flipTo m y).length = y.length := by simp [flipTo]; omega
theorem flipTo_get (m : Nat) (y : List Bool) (i : Nat) (b : Bool) (h : y[i]? = some b) : (flipTo m y)[i]? = some (if i < m then !b else b) := by
 have hi := (List.getElem?_eq_some_iff.1 h).1
 unfold flipTo
 by_cases hm : i < m
 ·rw [if_pos hm, List.getElem?_append_left (by simp; omega), List.getElem?_map, List.getElem?_take, if_pos hm, h]; rfl
 ·rw [if_neg hm, List.getElem?_append_right (by simp; omega), List.getElem?_drop]
  rw [show m + (i - ((y.take m).map fun b => !b).length) = i by simp; omega]
  exact h
theorem flipTo_step (m : Nat) (y : List Bool) (b : Bool) (h : y[m]? = some b) : (flipTo m y).set m (!b) = flipTo (m + 1) y := by
 have hi := (List.getElem?_eq_some_iff.1 h).1
 apply List.ext_getElem?
 intro i
 by_cases hlt : i < y.length
 ·obtain ⟨x, hx⟩ : ∃ x, y[i]? = some x := ⟨_, List.getElem?_eq_getElem hlt⟩
  rw [flipTo_get (m + 1) y i x hx, List.getElem?_set, flipTo_length]
  by_cases e : m = i
  ·subst e
   rw [if_pos rfl, if_pos hi, if_pos (by omega)]
   rw [h] at hx; cases hx; rfl
  ·rw [if_neg e, flipTo_get m y i x hx]
   by_cases h1 : i < m
   ·rw [if_pos h1, if_pos (by omega)]
   ·rw [if_neg h1, if_neg (by omega)]
 ·rw [List.getElem?_eq_none (by rw [List.length_set, flipTo_length]; omega), List.getElem?_eq_none (by rw [flipTo_length]; omega)]

/-- lists of truths, and what they have grown to -/
structure Bst (N L Z gg : Nat) (A : Nat → Option Addr) (n c : Nat → Nat) (G : Nat → Option Addr) (C : Nat → Nat) (X Y : Nat → List Bool) (w : World) : Prop where
 ls : Lists 4 50 N L A n c (fun q => (X q).map Value.bool) w
 gr : ∀ j, j < 2 → OwnV 4 w N (G j) (n j + 64) (C j) ((Y j).map Value.bool)
 gs : ∀ j, j < 2 → w.cell? ⟨gg, j, none⟩ = some (.slice (G j) (n j + 64) (C j))
 gt : ∃ cs, w.heap[gg]? = some (.cells cs 50 (0, 0))
 sep : ∀ i j g, i < 2 → j < 2 → i ≠ j → G i = some ⟨g, 0, none⟩ → G j ≠ some ⟨g, 0, none⟩
 lies : ∀ j, j < 2 → G j = A j ∨ ∃ g, G j = some ⟨g, 0, none⟩ ∧ Z ≤ g
 lt : ∀ j g, j < 2 → A j = some ⟨g, 0, none⟩ → g < Z

section
variable {N L Z gg : Nat} {A : Nat → Option Addr} {n c : Nat → Nat} {G : Nat → Option Addr} {C : Nat → Nat} {X Y : Nat → List Bool} {w w' : World}

theorem Bst.below (h : Bst N L Z gg A n c G C X Y w) (hb : Below w.heap.size w w') : Bst N L Z gg A n c G C X Y w' := by
 obtain ⟨cs, hc⟩ := h.gt
 have hl := lt_of_block hc
 exact ⟨h.ls.below hb, fun j hj => (h.gr j hj).kept hb, fun j hj => (hb.cell (p := ⟨gg, j, none⟩) hl).trans (h.gs j hj), ⟨cs, (hb.block gg hl).trans hc⟩, h.sep, h.lies, h.lt⟩

theorem Bst.drew (h : Bst N L Z gg A n c G C X Y w) : Bst N L Z gg A n c G C X Y w.drew := h.below (Below.refl _ _).drew

theorem Bst.glen (h : Bst N L Z gg A n c G C X Y w) {j : Nat} (hj : j < 2) : (Y j).length = n j + 64 := by
 have := (h.gr j hj).len
 rw [List.length_map] at this
 exact this.symm

theorem Bst.gblk (h : Bst N L Z gg A n c G C X Y w) {j : Nat} (hj : j < 2) : ∃ g, G j = some ⟨g, 0, none⟩ ∧ N ≤ g ∧ g < w.heap.size := by
 rcases (h.gr j hj).form with ⟨_, h0, _⟩ | ⟨g, e, h1, h2⟩
 ·omega
 ·exact ⟨g, e, h1, h2⟩

/-- where a list lies as it did, both hold the same -/
theorem Bst.agree (h : Bst N L Z gg A n c G C X Y w) {k i : Nat} (hk : k < 2) (hs : G k = A k) (hi : i < n k) : (X k)[i]? = (Y k)[i]? := by
 obtain ⟨g, hg, _, _⟩ := h.gblk hk
 have hx := (h.ls.own k hk)
 have hy := (h.gr k hk)
 rw [← hs, hg] at hx
 rw [hg] at hy
 have e1 := World.ownsRow.cellAt hx.own i (by omega)
 have e2 := World.ownsRow.cellAt hy.own i (by omega)
 rw [e1] at e2
 simp only [List.getElem?_map] at e2
 cases h1 : (X k)[i]? <;> cases h2 : (Y k)[i]? <;> rw [h1, h2] at e2 <;> simp_all

theorem Bst.ne (h : Bst N L Z gg A n c G C X Y w) {k j g : Nat} (hk : k < 2) (hj : j < 2) (hkj : j ≠ k) (hA : A k = some ⟨g, 0, none⟩) : G j ≠ some ⟨g, 0, none⟩ := by
 intro e
 rcases h.lies j hj with h1 | ⟨g', hg', hge⟩
 ·exact h.ls.ne j k g hj hk hkj (by rw [← h1, e]) hA
 ·have := h.lt k g hk hA
  rw [hg'] at e
  have : g' = g := by injection e with e; injection e
  omega

theorem map_set' (l : List Bool) (i : Nat) (b : Bool) : (l.map Value.bool).set i (.bool b) = (l.set i b).map Value.bool := by rw [List.map_set]

/-- an element of a list is written over -/
theorem Bst.putA (h : Bst N L Z gg A n c G C X Y w) {k g : Nat} (hk : k < 2) (hA : A k = some ⟨g, 0, none⟩) (i : Nat) (b : Bool) :
    ∃ X', Bst N L Z gg A n c G C X' (fun q => if q = k ∧ G k = A k then (Y q).set i b else Y q) (w.setCell ⟨g, i, none⟩ (.bool b)) := by
 obtain ⟨cs, hc⟩ := h.gt
 have hoA := (h.ls.own k hk).own
 rw [hA] at hoA
 have hgg : gg ≠ g := by
  intro e
  exact own_ne hoA hc (by decide) (by rw [e]; rfl)
 refine ⟨fun q => if q = k then (X k).set i b else X q, ⟨?_, fun j hj => ?_, fun j hj => ?_, ⟨cs, (blk_other _ hgg).trans hc⟩, h.sep, h.lies, h.lt⟩⟩
 ·refine (h.ls.put hk hA i (.bool b)).congr (fun q _ => ?_)
  by_cases e : q = k
  ·subst e; simp only [if_true]; exact map_set' _ _ _
  ·simp only [if_neg e]
 ·by_cases e : j = k
  ·subst e
   by_cases hs : G j = A j
   ·simp only [hs, and_self, if_true]
    have hg := h.gr j hj
    rw [hs, hA] at hg
    have := hg.put i (.bool b)
    rw [map_set'] at this
    rw [hA]; exact this
   ·simp only [hs, and_false, if_false]
    refine (h.gr j hj).keep (fun g' hg' => blk_other _ ?_)
    intro e
    simp only at e
    subst e
    exact hs (by rw [hg', hA])
  ·simp only [e, false_and, if_false]
   refine (h.gr j hj).keep (fun g' hg' => blk_other _ ?_)
   intro e2
   simp only at e2
   subst e2
   exact h.ne hk hj e hA hg'
 ·rw [World.cell?_setCell_other _ _ _ _ (by simp)]
  exact h.gs j hj

/-- an element of a grown list is written over -/
theorem Bst.putG (h : Bst N L Z gg A n c G C X Y w) {k g : Nat} (hk : k < 2) (hG : G k = some ⟨g, 0, none⟩) (i : Nat) (b : Bool) :
    ∃ X', Bst N L Z gg A n c G C X' (fun q => if q = k then (Y q).set i b else Y q) (w.setCell ⟨g, i, none⟩ (.bool b)) := by
 by_cases hs : G k = A k
 ·obtain ⟨X', hX⟩ := h.putA hk (hs.symm.trans hG) i b
  refine ⟨X', ?_⟩
  have e : (fun q => if q = k ∧ G k = A k then (Y q).set i b else Y q) = fun q => if q = k then (Y q).set i b else Y q := by
   funext q; simp only [hs, and_true]
  rw [← e]; exact hX
 ·obtain ⟨cs, hc⟩ := h.gt
  have hoG := (h.gr k hk).own
  rw [hG] at hoG
  have hgg : gg ≠ g := by
   intro e
   exact own_ne hoG hc (by decide) (by rw [e]; rfl)
  have hgZ : Z ≤ g := by
   rcases h.lies k hk with h1 | ⟨g', hg', hge⟩
   ·exact absurd h1 hs
   ·rw [hG] at hg'
    have : g = g' := by injection hg' with e; injection e
    omega
  refine ⟨X, ⟨⟨h.ls.tabOf (blk_other _ ?_), fun j hj => (h.ls.own j hj).keep (fun g' hg' => blk_other _ ?_), h.ls.ne, h.ls.ty⟩, fun j hj => ?_, fun j hj => ?_, ⟨cs, (blk_other _ hgg).trans hc⟩, h.sep, h.lies, h.lt⟩⟩
  ·intro e
   simp only at e
   obtain ⟨Cs, hC, _⟩ := h.ls.tab
   exact own_ne hoG hC (by decide) (by rw [e]; rfl)
  ·intro e
   simp only at e
   have := h.lt j g' hj hg'
   omega
  ·by_cases e : j = k
   ·subst e
    simp only [if_true]
    have hg := h.gr j hj
    rw [hG] at hg
    have := hg.put i (.bool b)
    rw [map_set'] at this
    rw [hG]; exact this
   ·simp only [e, if_false]
    refine (h.gr j hj).keep (fun g' hg' => blk_other _ ?_)
    intro e2
    simp only at e2
    subst e2
    exact h.sep j k g' hj hk e hg' hG
  ·rw [World.cell?_setCell_other _ _ _ _ (by simp)]
   exact h.gs j hj

theorem Bst.kpG {w0 : World} (h : Bst N L Z gg A n c G C X Y w) (hz : w0.heap.size ≤ Z) {k g : Nat} (hk : k < 2) (hG : G k = some ⟨g, 0, none⟩) (hw : Kp N A w0 w) (i : Nat) (b : Bool) : Kp N A w0 (w.setCell ⟨g, i, none⟩ (.bool b)) := by
 rcases h.lies k hk with h1 | ⟨g', hg', hge⟩
 ·obtain ⟨g2, e, h2, _⟩ := h.gblk hk
  rw [hG] at e
  have : g = g2 := by injection e with e; injection e
  subst this
  exact hw.put hk (h1.symm.trans hG) h2 i _
 ·obtain ⟨g2, e, h2, _⟩ := h.gblk hk
  rw [hG] at e
  have e1 : g = g2 := by injection e with e; injection e
  subst e1
  have e2 : g = g' := by rw [hG] at hg'; injection hg' with e; injection e
  exact ⟨hw.bel.setCell (p := ⟨g, i, none⟩) h2 _, fun q hq hne => (blk_other _ (by simp only; omega)).trans (hw.keep q hq hne)⟩

/-- blocks from a number on stay -/
structure Hi (Zk : Nat) (w w' : World) : Prop where
 size : w.heap.size ≤ w'.heap.size
 block : ∀ b, Zk ≤ b → b < w.heap.size → w'.heap[b]? = w.heap[b]?

theorem Hi.refl (Zk : Nat) (w : World) : Hi Zk w w := ⟨Nat.le_refl _, fun _ _ _ => rfl⟩
theorem Hi.drew {Zk : Nat} (h : Hi Zk w w') : Hi Zk w w'.drew := ⟨h.size, h.block⟩
theorem Hi.drewN {Zk : Nat} (h : Hi Zk w w') (m : Nat) : Hi Zk w (w'.drewN m) := by
 induction m with
 | zero => exact h
 | succ m ih => exact ih.drew
theorem Hi.put {Zk : Nat} (h : Hi Zk w w') {g : Nat} (hg : g < Zk) (j : Nat) (v : Value) : Hi Zk w (w'.setCell ⟨g, j, none⟩ v) :=
 ⟨by simpa using h.size, fun b hb hl => (blk_other v (by simp only; omega)).trans (h.block b hb hl)⟩
theorem Hi.cell {Zk : Nat} (h : Hi Zk w w') {b i : Nat} (hb : Zk ≤ b) (hl : b < w.heap.size) : w'.cell? ⟨b, i, none⟩ = w.cell? ⟨b, i, none⟩ := by simp only [World.cell?, h.block b hb hl]

theorem cell_drewN (w : World) (m : Nat) (p : Addr) : (w.drewN m).cell? p = w.cell? p := by
 induction m with
 | zero => rfl
 | succ m ih => exact ih
theorem frozen_drewN (w : World) (m : Nat) (p : Addr) : (w.drewN m).frozen? p = w.frozen? p := by
 induction m with
 | zero => rfl
 | succ m ih => exact ih

theorem Bst.drewN (h : Bst N L Z gg A n c G C X Y w) (m : Nat) : Bst N L Z gg A n c G C X Y (w.drewN m) := by
 induction m with
 | zero => exact h
 | succ m ih => exact ih.drew

theorem Bst.congr {Y' : Nat → List Bool} (h : Bst N L Z gg A n c G C X Y w) (he : Y = Y') : Bst N L Z gg A n c G C X Y' w := he ▸ h

theorem flip_a {k i : Nat} {x : Bool} (p : Prop) [Decidable p] (Y : Nat → List Bool) (hx : p → (Y k)[i]? = some x) :
    (fun q => if q = k ∧ p then ((if q = k ∧ p then flipTo i (Y q) else Y q) : List Bool).set i (!x) else (if q = k ∧ p then flipTo i (Y q) else Y q)) = fun q => if q = k ∧ p then flipTo (i + 1) (Y q) else Y q := by
 funext q
 by_cases h : q = k ∧ p
 ·obtain ⟨rfl, hp⟩ := h
  simp only [true_and, hp, if_true]
  exact flipTo_step i (Y q) x (hx hp)
 ·simp only [if_neg h]

theorem flip_zero {k : Nat} (p : Prop) [Decidable p] (Y : Nat → List Bool) : (fun q => if q = k ∧ p then flipTo 0 (Y q) else Y q) = Y := by
 funext q
 rw [flipTo_zero]
 split <;> rfl

theorem flip_start {k nk : Nat} (p : Prop) [Decidable p] (Y : Nat → List Bool) :
    (fun q => if q = k ∧ p then flipTo nk (Y q) else Y q) = fun q => if q = k then flipTo (if p then max nk 0 else 0) (Y q) else Y q := by
 funext q
 by_cases h : q = k
 ·subst h
  by_cases hp : p
  ·simp only [hp, and_self, if_true, Nat.max_zero]
  ·simp only [hp, and_false, if_false, if_true, flipTo_zero]
 ·simp only [h, false_and, if_false]

theorem flip_b {k i nk : Nat} {y : Bool} (p : Prop) [Decidable p] (Y : Nat → List Bool) (hy : (Y k)[i]? = some y) (hc : ¬ (p ∧ i < nk)) :
    (fun q => if q = k then ((if q = k then flipTo (if p then max nk i else i) (Y q) else Y q) : List Bool).set i (!y) else (if q = k then flipTo (if p then max nk i else i) (Y q) else Y q)) = fun q => if q = k then flipTo (if p then max nk (i + 1) else i + 1) (Y q) else Y q := by
 funext q
 by_cases h : q = k
 ·subst h
  simp only [if_true]
  have e1 : (if p then max nk i else i) = i := by
   split
   ·rename_i hp
    have : ¬ i < nk := fun h => hc ⟨hp, h⟩
    omega
   ·rfl
  have e2 : (if p then max nk (i + 1) else i + 1) = i + 1 := by
   split
   ·rename_i hp
    have : ¬ i < nk := fun h => hc ⟨hp, h⟩
    omega
   ·rfl
  rw [e1, e2]
  exact flipTo_step i (Y q) y hy
 ·simp only [if_neg h]

theorem flip_c {k i nk : Nat} (p : Prop) [Decidable p] (Y : Nat → List Bool) (hc : p ∧ i < nk) :
    (fun q => if q = k then flipTo (if p then max nk i else i) (Y q) else Y q) = fun q => if q = k then flipTo (if p then max nk (i + 1) else i + 1) (Y q) else Y q := by
 funext q
 by_cases h : q = k
 ·subst h
  simp only [if_true, hc.1]
  rw [show max nk i = max nk (i + 1) by omega]
 ·simp only [if_neg h]

theorem not_lt_flip {i nk : Nat} {p : Prop} [Decidable p] (hc : ¬ (p ∧ i < nk)) : ¬ i < (if p then max nk i else i) := by
 intro h
 split at h
 ·rename_i hp
  exact hc ⟨hp, by omega⟩
 ·omega

theorem flip_end {k nk m : Nat} (hm : nk ≤ m) (p : Prop) [Decidable p] (Y : Nat → List Bool) :
    (fun q => if q = k then flipTo (if p then max nk m else m) (Y q) else Y q) = fun q => if q = k then flipTo m (Y q) else Y q := by
 funext q
 rw [show (if p then max nk m else m) = m by split <;> omega]

end

end One
end Code
end Go.Proofs.YtmpeipdeablkdaaGreatDoor

namespace Go.Proofs.YtmpeipdeablkdaaGreatDoor
open Go.RowKit

namespace Code
namespace One

attribute [local go_sem ↓] Go.wp_at_zero Go.wp_at_succ

theorem infoEO : (Tryz.prog.info? 4).map (fun i => (i.zero, i.size, i.bytes)) = some (some (.bool false), 1, 1) := by kernel_rfl
theorem infoLO : (Tryz.prog.info? 50).map (fun i => (i.zero, i.size, i.bytes)) = some (some (.slice none 0 0), 1, 24) := by kernel_rfl

/-- sixty-four truths by turns -/
def turns : List Bool := (List.range 64).map fun (i : Nat) => ((i : Int) % 2 == 0)
def turnV : List Value := turns.map Value.bool
theorem turnV_get (i : Nat) (h : i < 64) : turnV[i]? = some (.bool ((i : Int) % 2 == 0)) := by
 unfold turnV turns
 rw [List.getElem?_map, List.getElem?_map, List.getElem?_range h]; rfl
theorem turnV_length : turnV.length = 64 := by simp [turnV, turns]

set_option maxRecDepth 100000 in
set_option maxHeartbeats 25600000 in
theorem apartO_any (N L : Nat) (A : Nat → Option Addr) (n c : Nat → Nat) (X : Nat → List Bool) (cl : Nat) (w : World) (h : Lists 4 50 N L A n c (fun q => (X q).map Value.bool) w) (hn : ∀ k, n k ≤ 20000) (hN : N ≤ w.heap.size) (hNL : N ≤ L) :
    Calls Tryz.prog 121 #[.slice (some ⟨L, 0, none⟩) 2 cl] w fun e w' => e = .returned (.bool true) ∧ Kp N A w w' := by
 have HN := Lib.hid hn
 have hL := h.tabLt
 have HLT0 : Hid (∀ j g, j < 2 → A j = some ⟨g, 0, none⟩ → g < w.heap.size) := Lib.hid (fun j g hj hg => (h.lt hj hg).2)
 have HG0 : Hid (Grw 4 50 N L w.heap.size A n c (fun q => (X q).map Value.bool) (fun _ => turnV) (fun _ => none) (fun _ => 0) 0 (.slice none 0 0) w) := Lib.hid (Grw.start h rfl)
 clear h hn
 obtain ⟨Z, hZe⟩ : ∃ Z, w.heap.size = Z := ⟨_, rfl⟩
 rw [hZe] at HG0 hL hN HLT0
 have hZr : Z ≤ w.heap.size := by omega
 have hZ0 : w.heap.size ≤ Z := by omega
 clear hZe
 go_enter Tryz.func121, Tryz.ntmps121
 go_wp2_with fail
 go_loopw [3, 4] (fun v5 v6 wy => ∃ (k : Nat) (ao5 : Option Addr) (c5 : Nat) (G : Nat → Option Addr) (C : Nat → Nat), k ≤ 2 ∧ v6 = .int .i64 (k : Int) ∧ v5 = .slice ao5 k c5 ∧ Grw 4 50 N L Z A n c (fun q => (X q).map Value.bool) (fun _ => turnV) G C k (.slice ao5 k c5) wy ∧ Kp N A w wy ∧ Z ≤ wy.heap.size) (fun _ v6 _ => 2 - (intOf v6).toNat)
 case atStart => exact ⟨0, none, 0, _, _, by omega, rfl, rfl, HG0.out, Kp.refl _ _ _, hZr⟩
 case round =>
  obtain ⟨k, ao5, c5, G, C, hk, rfl, rfl, hgw, hb, hZy⟩ := hrel
  have HGW := Lib.hid hgw
  have HB2 := Lib.hid hb
  clear hgw hb HG0
  by_cases hlt : k < 2
  ·have cT := HGW.out.ls.cell hlt
   have k0 : (0 : Int) ≤ (k : Int) := by omega
   have k1 : (k : Int) < 2 := by omega
   have HRS : Hid (Rg 4 50 N L A n c (fun q => (X q).map Value.bool) (fun _ => turnV) k 0 (A k) (c k) wr wr) := Lib.hid (Rg.start HGW.out.ls hlt)
   have hnk := HN.out k
   go_wp2_with fail
   clear cT
   obtain ⟨wo2, hwo2⟩ : ∃ wo2 : World, wo2 = wr := ⟨_, rfl⟩
   subst hwo2
   go_loopw [5, 6] (fun v7 v8 wy => ∃ (i : Nat) (ao : Option Addr) (cap : Nat), i ≤ 64 ∧ v8 = .int .i64 (i : Int) ∧ v7 = .slice ao (n k + i) cap ∧ Rg 4 50 N L A n c (fun q => (X q).map Value.bool) (fun _ => turnV) k i ao cap wo2 wy) (fun _ v8 _ => 64 - (intOf v8).toNat)
   case atStart => exact ⟨0, A k, c k, by omega, rfl, rfl, HRS.out⟩
   case round =>
    obtain ⟨i, ao, cap, hi, rfl, rfl, hrg⟩ := hrel
    have HRG := Lib.hid hrg
    have hsz := hrg.bel.size
    clear hrg HRS
    by_cases hlt2 : i < 64
    ·have HNX := fun (ao' : Option Addr) (cap' : Nat) (w6 : World) => @Rg.next 4 50 N L A n c (fun q => (X q).map Value.bool) (fun _ => turnV) k i ao ao' cap cap' wo2 wr wr w6 HRG.out hlt (fun j g hj hg => (HGW.out.ls.lt hj hg).2) (Below.refl _ _)
     have HOWN := HRG.out.own
     have HMT : Hid (turnV.take (i + 1) = turnV.take i ++ [.bool ((i : Int) % 2 == 0)]) := Lib.hid (by rw [List.take_add_one, turnV_get i hlt2]; rfl)
     simp only [HMT.out] at HNX
     simp only [← List.append_assoc] at HNX
     clear HMT
     obtain ⟨nk, hnke⟩ : ∃ nk, n k = nk := ⟨_, rfl⟩
     rw [hnke] at HNX HOWN hnk ⊢
     have HNXH := Lib.hid HNX
     have HOWNH := Lib.hid HOWN
     clear HNX HOWN hnke
     have hs5 : N ≤ wr.heap.size := by omega
     go_wp2_with (at_builtin; refine app_one Tryz.underlying50 infoEO rfl rfl _ _ rfl N rfl HOWNH.out rfl rfl (by omega) (by omega) hs5 ?_; intro ao6 c6 w6 hown6 hk6 hat6 hb6)
     have HR6 := Lib.hid (HNXH.out ao6 c6 w6 hown6 hk6 hat6 hb6 (by omega))
     clear hown6 hk6 hat6 hb6 HNXH HOWNH
     go_wp2_with fail
     go_roundw
     case rel => exact ⟨i + 1, ao6, c6, by omega, by go_num, rfl, HR6.out⟩
     case measure => simp [intOf]; omega
    ·obtain rfl : i = 64 := by omega
     have HGS : Hid (wr.ownsRow Z 50 1 (.slice ao5 k c5) k ((List.range k).map fun j => .slice (G j) (n j + 64) (C j))) :=
      Lib.hid (own_keepV HGW.out.gs (fun b hb => HRG.out.keep b (HGW.out.gs.lt b hb).2 (fun e => own_own_ne HGW.out.gs (HGW.out.ls.own k hlt).own (by decide) (by rw [e]; rfl) hb)))
     have hZs : Z ≤ wr.heap.size := by omega
     have hNZ : N ≤ Z := by omega
     have HNX := fun (ao6 : Option Addr) (c6 : Nat) (w6 : World) (o : Obj) => @Grw.next 4 50 N L Z A n c (fun q => (X q).map Value.bool) (fun _ => turnV) G C k c5 c6 cap ao5 ao6 ao wo2 wr w6 o HGW.out (by omega) hZy hlt turnV_length HRG.out
     have HNXH := Lib.hid HNX
     clear HNX
     go_upto_region 4 with (at_builtin; refine app_gen Tryz.underlying111 infoLO rfl (by decide) rfl _ _ rfl Z rfl HGS.out rfl rfl (by simp [Value.oneCell']) (by omega) (by omega) hZs ?_; intro ao6 c6 w6 hown6 hg6 hb6 hs6)
     have HG6 := Lib.hid (HNXH.out ao6 c6 w6 _ hown6 hg6)
     have HB6 : Hid (Kp N A w w6) := Lib.hid ((HB2.out.rg HRG.out hlt).below hb6 hZ0 hNZ)
     have hZ6 : Z ≤ w6.heap.size := by omega
     clear hown6 hg6 hb6 HNXH HGS HRG
     go_wp2_with fail
     go_roundw
     case rel => exact ⟨k + 1, ao6, c6, _, _, by omega, by go_num, rfl, HG6.out, HB6.out, hZ6⟩
     case measure => simp [intOf]; omega
  ·obtain rfl : k = 2 := by omega
   obtain ⟨gg, rfl⟩ : ∃ gg, ao5 = some ⟨gg, 0, none⟩ := by
    rcases HGW.out.gs.2 with ⟨_, h0⟩ | ⟨g, cap', cur, e, _⟩
    ·omega
    ·injection e with e _ _; exact ⟨g, e⟩
   have hgs : ∀ j, j < 2 → wr.cell? ⟨gg, j, none⟩ = some (.slice (G j) (n j + 64) (C j)) := by
    intro j hj
    rw [World.ownsRow.cellAt HGW.out.gs j (by omega)]
    have : j = 0 ∨ j = 1 := by omega
    rcases this with rfl | rfl <;> rfl
   have hgt : ∃ cs, wr.heap[gg]? = some (.cells cs 50 (0, 0)) := by
    rcases HGW.out.gs.2 with ⟨_, h0⟩ | ⟨g, cap', cur, e, _, hh, _⟩
    ·omega
    ·injection e with e _ _
     have : gg = g := by injection e with e; injection e
     exact ⟨cur, by rw [this]; exact hh⟩
   have HST : Hid (Bst N L Z gg A n c G C X (fun j => X j ++ turns) wr) := Lib.hid ⟨HGW.out.ls, fun j hj => by rw [List.map_append]; exact HGW.out.new j hj, hgs, hgt, fun i j g hi hj => HGW.out.sep i j g hi hj, fun j hj => HGW.out.lies j hj, fun j g hj hg => HLT0.out j g hj hg⟩
   rw [show ((2 : Nat) : Int) = (2 : Int) from rfl]
   have hNZ : N ≤ Z := by omega
   clear hgs hgt hk hlt HGW HLT0
   go_wp2_with fail
   go_loopw [7] (fun v wy => ∃ (k : Nat) (X1 Y : Nat → List Bool), k ≤ 2 ∧ v = .int .i64 (k : Int) ∧ Bst N L Z gg A n c G C X1 Y wy ∧ Kp N A w wy) (fun v _ => 2 - (intOf v).toNat)
   case atStart => exact ⟨0, X, _, by omega, rfl, HST.out, HB2.out⟩
   case round =>
    obtain ⟨k, X1, Y, hk, rfl, hst, hkp⟩ := hrel
    have HS := Lib.hid hst
    have HKP := Lib.hid hkp
    have hwz := hkp.bel.size
    clear hst hkp HST HB2
    by_cases hlt : k < 2
    ·have k0 : (0 : Int) ≤ (k : Int) := by omega
     have k1 : (k : Int) < 2 := by omega
     go_wp2_with fail
     obtain ⟨wz, hwze⟩ : ∃ wz : World, wz = wr := ⟨_, rfl⟩
     subst hwze
     go_loopw [8, 9] (fun v8 v9 wy => ∃ (j : Nat) (aw : Option Addr) (cw : Nat) (W : Nat → Option Addr) (CW : Nat → Nat), j ≤ 2 ∧ v9 = .int .i64 (j : Int) ∧ v8 = .slice aw j cw ∧ OwnV 50 wy wz.heap.size aw j cw ((List.range j).map fun q => .slice (W q) (n q + 64) (CW q)) ∧
      (∀ q, q < j → OwnV 4 wy wz.heap.size (W q) (n q + 64) (CW q) ((Y q).map Value.bool)) ∧ Below wz.heap.size wz wy) (fun _ v9 _ => 2 - (intOf v9).toNat)
     case atStart => exact ⟨0, none, 0, fun _ => none, fun _ => 0, by omega, rfl, rfl, OwnV.nil _ _ _, fun q hq => by omega, Below.refl _ _⟩
     case round =>
      obtain ⟨j, aw, cw, W, CW, hj, rfl, rfl, hown, hels, hb⟩ := hrel
      have HOW := Lib.hid hown
      have HEL := Lib.hid hels
      have HBZ := Lib.hid hb
      have hsz := hb.size
      clear hown hels hb
      by_cases hltj : j < 2
      ·have j0 : (0 : Int) ≤ (j : Int) := by omega
       have j1 : (j : Int) < 2 := by omega
       go_wp2_with fail
       obtain ⟨wj, hwje⟩ : ∃ wj : World, wj = wr := ⟨_, rfl⟩
       subst hwje
       go_loopw [10, 11] (fun v10 v11 wx => ∃ (i : Nat) (ac : Option Addr) (cc : Nat), i ≤ n j + 64 ∧ v11 = .int .i64 (i : Int) ∧ v10 = .slice ac i cc ∧ OwnV 4 wx wj.heap.size ac i cc (((Y j).take i).map Value.bool) ∧ Below wj.heap.size wj wx) (fun _ v11 _ => (n j + 64) - (intOf v11).toNat)
       case atStart => exact ⟨0, none, 0, by omega, rfl, rfl, OwnV.nil _ _ _, Below.refl _ _⟩
       case round =>
        obtain ⟨i, ac, cc, hi, rfl, rfl, hown, hb⟩ := hrel
        have HOC := Lib.hid hown
        have HBJ := Lib.hid hb
        have hszj := hb.size
        have HBW := Lib.hid (HBZ.out.trans (hb.mono hsz))
        obtain ⟨cs, hgt⟩ := HS.out.gt
        have hgl := lt_of_block hgt
        have cG := (HBW.out.cell (p := ⟨gg, j, none⟩) hgl).trans (HS.out.gs j hltj)
        have hnk := HN.out j
        have hyl := HS.out.glen hltj
        clear hown hb hgt
        by_cases hlti : i < n j + 64
        ·have hy : (Y j)[i]? = some ((Y j)[i]'(by omega)) := List.getElem?_eq_getElem _
         generalize (Y j)[i]'(by omega) = y at hy
         obtain ⟨g, hg, hgN, hgw, hc⟩ := (HS.out.gr j hltj).cell (i := i) (v := .bool y) (by rw [List.getElem?_map, hy]; rfl)
         replace hc := (HBW.out.cell (p := ⟨g, i, none⟩) hgw).trans hc
         rw [hg] at cG
         have HY := Lib.hid hy
         have i0 : (0 : Int) ≤ (i : Int) := by omega
         have i1 : (i : Int) < (n j : Int) + 64 := by omega
         clear hy hg hyl
         generalize n j = nj at *
         go_wp2_with (at_builtin; refine app_one Tryz.underlying50 infoEO rfl rfl _ _ rfl wj.heap.size rfl HOC.out rfl rfl (by omega) (by omega) hszj ?_; intro ao' cap' w1 hown1 _ _ hb1)
         go_roundw
         case rel => exact ⟨i + 1, ao', cap', by omega, by go_num, rfl, by rw [List.take_add_one, HY.out, List.map_append]; exact hown1, HBJ.out.trans hb1⟩
         case measure => simp [intOf]; omega
        ·obtain rfl : i = n j + 64 := by omega
         have HOC2 : Hid (OwnV 4 wr wj.heap.size ac (n j + 64) cc ((Y j).map Value.bool)) := Lib.hid (by have := HOC.out; rw [List.take_of_length_le (by omega)] at this; exact this)
         have HOW2 := Lib.hid (HOW.out.kept HBJ.out)
         have HEL2 : Hid (∀ q, q < j → OwnV 4 wr wz.heap.size (W q) (n q + 64) (CW q) ((Y q).map Value.bool)) := Lib.hid (fun q hq => (HEL.out q hq).kept HBJ.out)
         have hszz : wz.heap.size ≤ wr.heap.size := by omega
         clear HOC HOW HEL
         obtain ⟨nj, hnj⟩ : ∃ nj, n j = nj := ⟨_, rfl⟩
         rw [hnj] at cG HOC2 ⊢
         have HNJ := Lib.hid hnj
         clear hnj
         go_upto_region 17 with (at_builtin; refine app_one Tryz.underlying111 infoLO rfl rfl _ _ rfl wz.heap.size rfl HOW2.out rfl rfl (by omega) (by omega) hszz ?_; intro ao' cap' w1 hown1 hk1 hat1 hb1)
         have HOW3 : Hid (OwnV 50 w1 wz.heap.size ao' (j + 1) cap' ((List.range (j + 1)).map fun q => .slice (if q = j then ac else W q) (n q + 64) (if q = j then cc else CW q))) := by
          have e : (List.range (j + 1)).map (fun q => Value.slice (if q = j then ac else W q) (n q + 64) (if q = j then cc else CW q)) = ((List.range j).map fun q => .slice (W q) (n q + 64) (CW q)) ++ [.slice ac (nj + 64) cc] := by
           rw [List.range_succ, List.map_append]
           congr 1
           ·refine List.map_congr_left (fun q hq => ?_)
            have := List.mem_range.1 hq
            rw [if_neg (by omega), if_neg (by omega)]
           ·simp [HNJ.out]
          rw [e]; exact Lib.hid hown1
         have HEL3 : Hid (∀ q, q < j + 1 → OwnV 4 w1 wz.heap.size (if q = j then ac else W q) (n q + 64) (if q = j then cc else CW q) ((Y q).map Value.bool)) := Lib.hid (fun q hq => by
          have hne : ∀ b, (∃ n2 c2 vs, OwnV 4 wr wz.heap.size (some ⟨b, 0, none⟩) n2 c2 vs) → aw ≠ some ⟨b, 0, none⟩ := by
           rintro b ⟨n2, c2, vs, ho⟩ e
           have := HOW2.out.own
           rw [e] at this
           exact own_own_ne this ho.own (by decide) (b := b) rfl rfl
          by_cases e : q = j
          ·subst e
           simp only [if_true, HNJ.out]
           refine (HOC2.out.weaken (by omega)).keep (fun g hg => hk1 g ?_ (hne g ⟨_, _, _, by have := HOC2.out.weaken (base' := wz.heap.size) (by omega); rw [hg] at this; exact this⟩))
           have := HOC2.out
           rw [hg] at this
           exact (this.own.lt g rfl).2
          ·simp only [if_neg e]
           refine (HEL2.out q (by omega)).keep (fun g hg => hk1 g ?_ (hne g ⟨_, _, _, by have := HEL2.out q (by omega); rw [hg] at this; exact this⟩))
           have := HEL2.out q (by omega)
           rw [hg] at this
           exact (this.own.lt g rfl).2)
         have HBW2 : Hid (Below wz.heap.size wz w1) := Lib.hid (HBW.out.trans hb1)
         clear hown1 hk1 hat1 hb1 HOC2 HOW2 HEL2
         go_wp2_with fail
         go_roundw
         case rel => exact ⟨j + 1, ao', cap', _, _, by omega, by go_num, rfl, HOW3.out, HEL3.out, HBW2.out⟩
         case measure => simp [intOf]; omega
      ·obtain rfl : j = 2 := by omega
       obtain ⟨gw, rfl⟩ : ∃ gw, aw = some ⟨gw, 0, none⟩ := by
        rcases HOW.out.form with ⟨_, h0, _⟩ | ⟨g, e, _⟩
        ·omega
        ·exact ⟨g, e⟩
       have HWC : Hid (∀ q, q < 2 → wr.cell? ⟨gw, q, none⟩ = some (.slice (W q) (n q + 64) (CW q))) := Lib.hid (fun q hq => by
        rw [World.ownsRow.cellAt HOW.out.own q (by omega)]
        have : q = 0 ∨ q = 1 := by omega
        rcases this with rfl | rfl <;> rfl)
       have hgw := HOW.out.own.lt gw rfl
       have HST1 := Lib.hid (HS.out.below HBZ.out)
       have HKP1 : Hid (Kp N A w wr) := Lib.hid (HKP.out.below HBZ.out hwz (by omega))
       obtain ⟨Zk, hZk⟩ : ∃ Zk, wz.heap.size = Zk := ⟨_, rfl⟩
       rw [hZk] at hgw HEL
       have hZkN : w.heap.size ≤ Zk := by omega
       have HLTA : Hid (∀ q g, q < 2 → A q = some ⟨g, 0, none⟩ → g < Zk) := Lib.hid (fun q g hq hg => by have := (HS.out.ls.lt hq hg).2; omega)
       have HLTG : Hid (∀ q g, q < 2 → G q = some ⟨g, 0, none⟩ → g < Zk) := Lib.hid (fun q g hq hg => by
        obtain ⟨g', e, _, h2⟩ := HS.out.gblk hq
        rw [hg] at e
        have : g = g' := by injection e with e; injection e
        omega)
       have HYL : Hid (∀ q, q < 2 → (Y q).length = n q + 64) := Lib.hid (fun q hq => HS.out.glen hq)
       rw [show ((2 : Nat) : Int) = (2 : Int) from rfl]
       clear hj hltj HOW HS HKP HBZ hZk hwz hsz
       go_wp2_with fail
       obtain ⟨wx, hwxe⟩ : ∃ wx : World, wx = wr := ⟨_, rfl⟩
       subst hwxe
       go_loopw [12] (fun v wy => ∃ (i : Nat) (X2 : Nat → List Bool), i ≤ n k ∧ v = .int .i64 (i : Int) ∧ Bst N L Z gg A n c G C X2 (fun q => if q = k ∧ G k = A k then flipTo i (Y q) else Y q) wy ∧ Kp N A w wy ∧ Hi Zk wx wy) (fun v _ => n k - (intOf v).toNat)
       case atStart => exact ⟨0, X1, by omega, rfl, HST1.out.congr (flip_zero _ _).symm, HKP1.out, Hi.refl _ _⟩
       case round =>
        obtain ⟨i, X2, hi, rfl, hst, hkp, hhi⟩ := hrel
        have HS := Lib.hid hst
        have HKP := Lib.hid hkp
        have HHI := Lib.hid hhi
        have cT := hst.ls.cell hlt
        have hnk := HN.out k
        clear hst hkp hhi HST1 HKP1
        by_cases hlt2 : i < n k
        ·obtain ⟨g, hA, hgN, hgw2⟩ := HS.out.ls.blk hlt hlt2
         have HA := Lib.hid hA
         have ho := HS.out.ls.own k hlt
         have hx : (X2 k)[i]? = some ((X2 k)[i]'(by have := ho.len; rw [List.length_map] at this; omega)) := List.getElem?_eq_getElem _
         generalize (X2 k)[i]'(by have := ho.len; rw [List.length_map] at this; omega) = x at hx
         rw [hA] at ho
         have cE : wr.cell? ⟨g, i, none⟩ = some (.bool x) := by rw [World.ownsRow.cellAt ho.own i (by omega), List.getElem?_map, hx]; rfl
         have fE : wr.frozen? ⟨g, i, none⟩ = false := World.ownsRow.frozenAt ho.own i
         have HXY : Hid (G k = A k → (Y k)[i]? = some x) := Lib.hid (fun hs => by
          have e := HS.out.agree hlt hs hlt2
          rw [hx] at e
          simp only [hs, and_self, if_true] at e
          have hyl := HYL.out k hlt
          have hy : (Y k)[i]? = some ((Y k)[i]'(by omega)) := List.getElem?_eq_getElem _
          rw [flipTo_get i (Y k) i _ hy, if_neg (by omega)] at e
          rw [hy, e])
         have HPA := Lib.hid (HS.out.drew.putA hlt hA i (!x))
         have HKA : Hid (Kp N A w (wr.drew.setCell ⟨g, i, none⟩ (.bool !x))) := Lib.hid (HKP.out.drew.put hlt hA hgN i _)
         have HHA : Hid (Hi Zk wx (wr.drew.setCell ⟨g, i, none⟩ (.bool !x))) := Lib.hid (HHI.out.drew.put (HLTA.out k g hlt hA) i _)
         rw [hA] at cT
         have i0 : (0 : Int) ≤ (i : Int) := by omega
         have i1 : (i : Int) < (n k : Int) := by omega
         clear hx ho hA
         generalize n k = nk at *
         go_wp2_with fail
         go_still_tail 14, (by kernel_rfl)
         go_wp2_with fail
         obtain ⟨X3, hX3⟩ := HPA.out
         have HX3 := Lib.hid (hX3.congr (flip_a (G k = A k) Y HXY.out))
         go_roundw
         case rel => exact ⟨i + 1, X3, by omega, by go_num, HX3.out, HKA.out, HHA.out⟩
         case measure => simp [intOf]; omega
        ·obtain rfl : i = n k := by omega
         have HS2 : Hid (Bst N L Z gg A n c G C X2 (fun q => if q = k then flipTo (if G k = A k then max (n k) 0 else 0) (Y q) else Y q) wr) := Lib.hid (HS.out.congr (flip_start _ _))
         clear HS hlt2 hi
         generalize hnke : n k = nk at *
         have HNK := Lib.hid hnke
         clear hnke
         go_wp2_with fail
         go_loopw [13] (fun v wy => ∃ (i : Nat) (X2 : Nat → List Bool), i ≤ nk + 64 ∧ v = .int .i64 (i : Int) ∧ Bst N L Z gg A n c G C X2 (fun q => if q = k then flipTo (if G k = A k then max nk i else i) (Y q) else Y q) wy ∧ Kp N A w wy ∧ Hi Zk wx wy) (fun v _ => (nk + 64) - (intOf v).toNat)
         case atStart => exact ⟨0, X2, by omega, rfl, HS2.out, HKP.out, HHI.out⟩
         case round =>
          obtain ⟨i, X3, hi, rfl, hst, hkp, hhi⟩ := hrel
          have HS := Lib.hid hst
          have HKP3 := Lib.hid hkp
          have HHI3 := Lib.hid hhi
          have cT3 := hst.ls.cell hlt
          have cG := hst.gs k hlt
          have cW := (hhi.cell (i := k) hgw.1 hgw.2).trans (HWC.out k hlt)
          rw [HNK.out] at cT3 cG cW
          clear hst hkp hhi HS2 HKP HHI cT
          by_cases hlt2 : i < nk + 64
          ·have hyl := HYL.out k hlt
           rw [HNK.out] at hyl
           have hy : (Y k)[i]? = some ((Y k)[i]'(by omega)) := List.getElem?_eq_getElem _
           generalize (Y k)[i]'(by omega) = y at hy
           obtain ⟨bw, hbw, hbk, hbs, hcw⟩ := (HEL.out k hlt).cell (i := i) (v := .bool y) (by rw [List.getElem?_map, hy]; rfl)
           replace hcw := (HHI3.out.cell (i := i) hbk hbs).trans hcw
           obtain ⟨g, hg, hgN, hgw2, cE⟩ := (HS.out.gr k hlt).cell (i := i) (v := .bool (if i < (if G k = A k then max nk i else i) then !y else y)) (by simp only [if_true]; rw [List.getElem?_map, flipTo_get _ _ _ _ hy]; rfl)
           have fE : wr.frozen? ⟨g, i, none⟩ = false := by
            have := HS.out.gr k hlt
            rw [hg] at this
            exact World.ownsRow.frozenAt this.own i
           rw [hg] at cG
           rw [hbw] at cW
           have i0 : (0 : Int) ≤ (i : Int) := by omega
           have i1 : (i : Int) < (nk : Int) + 64 := by omega
           by_cases hsh : G k = A k ∧ i < nk
           ·rw [if_pos (by rw [if_pos hsh.1]; omega)] at cE
            have q1 : decide (nk ≤ i) = false := by simp; omega
            have q2 : ((!y) == y) = false := by cases y <;> rfl
            have HS4 := Lib.hid (HS.out.congr (flip_c (G k = A k) Y hsh))
            clear hsh hy hg hbw HS
            go_wp2_with fail
            go_quiet (fail)
            go_wp2_with fail
            go_roundw
            case rel => exact ⟨i + 1, X3, by omega, by go_num, HS4.out.drewN _, HKP3.out.drewN _, HHI3.out.drewN _⟩
            case measure => simp [intOf]; omega
           ·rw [if_neg (not_lt_flip hsh)] at cE
            have HPF := Lib.hid (fun m => (HS.out.drewN m).drew.putG hlt hg i (!y))
            have HFB := Lib.hid (flip_b (nk := nk) (G k = A k) Y hy hsh)
            have HKG : Hid (∀ m, Kp N A w ((wr.drewN m).drew.setCell ⟨g, i, none⟩ (.bool !y))) := Lib.hid (fun m => (HS.out.drewN m).drew.kpG hZ0 hlt hg (HKP3.out.drewN m).drew i _)
            have HHG : Hid (∀ m, Hi Zk wx ((wr.drewN m).drew.setCell ⟨g, i, none⟩ (.bool !y))) := Lib.hid (fun m => (HHI3.out.drewN m).drew.put (HLTG.out k g hlt hg) i _)
            have q2 : (y == y) = true := by simp
            clear hy hg hbw
            by_cases hni : nk ≤ i
            ·have q1 : decide (nk ≤ i) = true := by simp; omega
             go_wp2_with fail
             go_quiet (fail)
             have HPF2 := Lib.hid (HPF.out nq)
             have HKG2 := Lib.hid (HKG.out nq)
             have HHG2 := Lib.hid (HHG.out nq)
             have cG2 := (cell_drewN wr nq _).trans cG
             have cE2 := (cell_drewN wr nq _).trans cE
             have fE2 := (frozen_drewN wr nq _).trans fE
             obtain ⟨w7, hw7⟩ : ∃ w7, wr.drewN nq = w7 := ⟨_, rfl⟩
             rw [hw7] at HPF2 HKG2 HHG2 cG2 cE2 fE2 ⊢
             clear cG cE fE cW cT3 hcw hw7 HPF HKG HHG
             go_wp2_with fail
             go_still_tail 14, (by kernel_rfl)
             go_wp2_with fail
             obtain ⟨X4, hX4⟩ := HPF2.out
             have HX4 := Lib.hid (hX4.congr HFB.out)
             go_roundw
             case rel => exact ⟨i + 1, X4, by omega, by go_num, HX4.out, HKG2.out, HHG2.out⟩
             case measure => simp [intOf]; omega
            ·have q1 : decide (nk ≤ i) = false := by simp; omega
             go_wp2_with fail
             go_quiet (fail)
             have HPF2 := Lib.hid (HPF.out nq)
             have HKG2 := Lib.hid (HKG.out nq)
             have HHG2 := Lib.hid (HHG.out nq)
             have cG2 := (cell_drewN wr nq _).trans cG
             have cE2 := (cell_drewN wr nq _).trans cE
             have fE2 := (frozen_drewN wr nq _).trans fE
             obtain ⟨w7, hw7⟩ : ∃ w7, wr.drewN nq = w7 := ⟨_, rfl⟩
             rw [hw7] at HPF2 HKG2 HHG2 cG2 cE2 fE2 ⊢
             clear cG cE fE cW cT3 hcw hw7 HPF HKG HHG
             go_wp2_with fail
             go_still_tail 14, (by kernel_rfl)
             go_wp2_with fail
             obtain ⟨X4, hX4⟩ := HPF2.out
             have HX4 := Lib.hid (hX4.congr HFB.out)
             go_roundw
             case rel => exact ⟨i + 1, X4, by omega, by go_num, HX4.out, HKG2.out, HHG2.out⟩
             case measure => simp [intOf]; omega
          ·obtain rfl : i = nk + 64 := by omega
           have HS5 := Lib.hid (HS.out.congr (flip_end (k := k) (by omega) (G k = A k) Y))
           have HWC5 : Hid (∀ q, q < 2 → wr.cell? ⟨gw, q, none⟩ = some (.slice (W q) (n q + 64) (CW q))) := Lib.hid (fun q hq => (HHI3.out.cell (i := q) hgw.1 hgw.2).trans (HWC.out q hq))
           have HHS := HHI3.out.size
           obtain ⟨cs5, hgt5⟩ := HS5.out.gt
           have hgl := lt_of_block hgt5
           have hwv := HKP3.out.bel.size
           clear HS hlt2 hi cT3 cW hgt5
           go_wp2_with fail
           clear cG
           obtain ⟨wv, hwve⟩ : ∃ wv : World, wv = wr := ⟨_, rfl⟩
           subst hwve
           go_loopw [14] (fun v wy => ∃ j : Nat, j ≤ 2 ∧ v = .int .i64 (j : Int) ∧ Below wv.heap.size wv wy) (fun v _ => 2 - (intOf v).toNat)
           case atStart => exact ⟨0, by omega, rfl, Below.refl _ _⟩
           case round =>
            obtain ⟨j, hj, rfl, hb⟩ := hrel
            have HBV := Lib.hid hb
            have hszv := hb.size
            clear hb
            by_cases hltj : j < 2
            ·have j0 : (0 : Int) ≤ (j : Int) := by omega
             have j1 : (j : Int) < 2 := by omega
             go_wp2_with fail
             go_loopw [15] (fun v wy => ∃ i : Nat, i ≤ n j + 64 ∧ v = .int .i64 (i : Int) ∧ Below wv.heap.size wv wy) (fun v _ => (n j + 64) - (intOf v).toNat)
             case atStart => exact ⟨0, by omega, rfl, HBV.out⟩
             case round =>
              obtain ⟨i, hi, rfl, hb⟩ := hrel
              have HBY := Lib.hid hb
              have cG := (hb.cell (p := ⟨gg, j, none⟩) hgl).trans (HS5.out.gs j hltj)
              have cW := (hb.cell (p := ⟨gw, j, none⟩) (by show gw < wv.heap.size; omega)).trans (HWC5.out j hltj)
              have hnj := HN.out j
              have hyl := HYL.out j hltj
              clear hb HBV
              by_cases hlti : i < n j + 64
              ·have hy : (Y j)[i]? = some ((Y j)[i]'(by omega)) := List.getElem?_eq_getElem _
               generalize (Y j)[i]'(by omega) = y at hy
               obtain ⟨bw, hbw, hbk, hbs, hcw⟩ := (HEL.out j hltj).cell (i := i) (v := .bool y) (by rw [List.getElem?_map, hy]; rfl)
               replace hcw := (HBY.out.cell (p := ⟨bw, i, none⟩) (by show bw < wv.heap.size; omega)).trans ((HHI3.out.cell (i := i) hbk hbs).trans hcw)
               have i0 : (0 : Int) ≤ (i : Int) := by omega
               have i1 : (i : Int) < (n j : Int) + 64 := by omega
               by_cases hjk : j = k
               ·subst hjk
                obtain ⟨g, hg, _, hgw2, cE⟩ := (HS5.out.gr j hltj).cell (i := i) (v := .bool (!y)) (by simp only [if_true]; rw [List.getElem?_map, flipTo_get _ _ _ _ hy, if_pos (by have := HNK.out; omega)]; rfl)
                replace cE := (HBY.out.cell (p := ⟨g, i, none⟩) hgw2).trans cE
                rw [hg] at cG
                rw [hbw] at cW
                have q1 : ((!y) == y) = false := by cases y <;> rfl
                have q2 : ((j : Int) != (j : Int)) = false := by simp
                clear hy hg hbw hyl
                have hnj2 := HNK.out
                rw [hnj2] at cG cW i1 hnj hi hlti ⊢
                clear hnj2
                go_wp2_with fail
                go_quiet (fail)
                go_wp2_with fail
                go_roundw
                case rel => exact ⟨i + 1, by omega, by go_num, belowN HBY.out _⟩
                case measure => simp [intOf]; omega
               ·obtain ⟨g, hg, _, hgw2, cE⟩ := (HS5.out.gr j hltj).cell (i := i) (v := .bool y) (by simp only [if_neg hjk]; rw [List.getElem?_map, hy]; rfl)
                replace cE := (HBY.out.cell (p := ⟨g, i, none⟩) hgw2).trans cE
                rw [hg] at cG
                rw [hbw] at cW
                have q1 : (y == y) = true := by simp
                have q2 : ((j : Int) != (k : Int)) = true := by simp; omega
                clear hy hg hbw hyl
                generalize n j = nj at *
                go_wp2_with fail
                go_quiet (fail)
                go_wp2_with fail
                go_roundw
                case rel => exact ⟨i + 1, by omega, by go_num, belowN HBY.out _⟩
                case measure => simp [intOf]; omega
              ·obtain rfl : i = n j + 64 := by omega
               generalize n j = nj at *
               go_wp2_with fail
               go_roundw
               case rel => exact ⟨j + 1, by omega, by go_num, HBY.out⟩
               case measure => simp [intOf]; omega
            ·obtain rfl : j = 2 := by omega
             have HS6 := Lib.hid (HS5.out.below HBV.out)
             have HK6 : Hid (Kp N A w wr) := Lib.hid (HKP3.out.below HBV.out hwv (by omega))
             go_wp2_with fail
             go_roundw
             case rel => exact ⟨k + 1, _, _, by omega, by go_num, HS6.out, HK6.out⟩
             case measure => simp [intOf]; omega
    ·obtain rfl : k = 2 := by omega
     go_wp2_with fail
     go_ret
     exact ⟨rfl, HKP.out⟩

end One
end Code
end Go.Proofs.YtmpeipdeablkdaaGreatDoor

namespace Go.Proofs.YtmpeipdeablkdaaGreatDoor
open Go.RowKit
namespace Code

def NoOut (w : World) (e : Ending) (w' : World) : Prop := e = .returned (.bool true) ∧ Below w.heap.size w w'

theorem noApartTexts (w : World) : Calls Tryz.prog 114 #[.slice none 0 0] w (NoOut w) := by
 go_enter Tryz.func114, Tryz.ntmps114
 go_wp2_with fail
 go_loop [3] (fun v => v = .int .i64 0) (fun _ => 0)
 case atStart => rfl
 case round =>
  obtain rfl := hrel
  go_wp2_with fail
  go_loop [5, 6] (fun v u => v = .slice none 0 0 ∧ u = .int .i64 0) (fun _ _ => 0)
  case atStart => exact ⟨rfl, rfl⟩
  case round =>
   obtain ⟨rfl, rfl⟩ := hrel
   go_wp2_with fail
   go_loop [9] (fun v => v = .int .i64 0) (fun _ => 0)
   case atStart => rfl
   case round =>
    obtain rfl := hrel
    go_wp2_with fail
    go_ret
    exact ⟨rfl, Below.refl _ _⟩

theorem noApartInts (w : World) : Calls Tryz.prog 115 #[.slice none 0 0] w (NoOut w) := by
 go_enter Tryz.func115, Tryz.ntmps115
 go_wp2_with fail
 go_loop [3] (fun v => v = .int .i64 0) (fun _ => 0)
 case atStart => rfl
 case round =>
  obtain rfl := hrel
  go_wp2_with fail
  go_loop [5, 6] (fun v u => v = .slice none 0 0 ∧ u = .int .i64 0) (fun _ _ => 0)
  case atStart => exact ⟨rfl, rfl⟩
  case round =>
   obtain ⟨rfl, rfl⟩ := hrel
   go_wp2_with fail
   go_loop [9] (fun v => v = .int .i64 0) (fun _ => 0)
   case atStart => rfl
   case round =>
    obtain rfl := hrel
    go_wp2_with fail
    go_ret
    exact ⟨rfl, Below.refl _ _⟩

theorem noApartTokens (w : World) : Calls Tryz.prog 117 #[.slice none 0 0] w (NoOut w) := by
 go_enter Tryz.func117, Tryz.ntmps117
 go_wp2_with fail
 go_loop [3] (fun v => v = .int .i64 0) (fun _ => 0)
 case atStart => rfl
 case round =>
  obtain rfl := hrel
  go_wp2_with fail
  go_loop [5, 6] (fun v u => v = .slice none 0 0 ∧ u = .int .i64 0) (fun _ _ => 0)
  case atStart => exact ⟨rfl, rfl⟩
  case round =>
   obtain ⟨rfl, rfl⟩ := hrel
   go_wp2_with fail
   go_loop [9] (fun v => v = .int .i64 0) (fun _ => 0)
   case atStart => rfl
   case round =>
    obtain rfl := hrel
    go_wp2_with fail
    go_ret
    exact ⟨rfl, Below.refl _ _⟩

theorem noApartRows (w : World) : Calls Tryz.prog 118 #[.slice none 0 0] w (NoOut w) := by
 go_enter Tryz.func118, Tryz.ntmps118
 go_wp2_with fail
 go_loop [3] (fun v => v = .int .i64 0) (fun _ => 0)
 case atStart => rfl
 case round =>
  obtain rfl := hrel
  go_wp2_with fail
  go_loop [5, 6] (fun v u => v = .slice none 0 0 ∧ u = .int .i64 0) (fun _ _ => 0)
  case atStart => exact ⟨rfl, rfl⟩
  case round =>
   obtain ⟨rfl, rfl⟩ := hrel
   go_wp2_with fail
   go_loop [9] (fun v => v = .int .i64 0) (fun _ => 0)
   case atStart => rfl
   case round =>
    obtain rfl := hrel
    go_wp2_with fail
    go_ret
    exact ⟨rfl, Below.refl _ _⟩

theorem noApartInstrs (w : World) : Calls Tryz.prog 19 #[.slice none 0 0] w (NoOut w) := by
 go_enter Tryz.func19, Tryz.ntmps19
 go_wp2_with fail
 go_loop [3] (fun v => v = .int .i64 0) (fun _ => 0)
 case atStart => rfl
 case round =>
  obtain rfl := hrel
  go_wp2_with fail
  go_loop [5, 6] (fun v u => v = .slice none 0 0 ∧ u = .int .i64 0) (fun _ _ => 0)
  case atStart => exact ⟨rfl, rfl⟩
  case round =>
   obtain ⟨rfl, rfl⟩ := hrel
   go_wp2_with fail
   go_loop [9] (fun v => v = .int .i64 0) (fun _ => 0)
   case atStart => rfl
   case round =>
    obtain rfl := hrel
    go_wp2_with fail
    go_ret
    exact ⟨rfl, Below.refl _ _⟩

theorem noApartRules (w : World) : Calls Tryz.prog 119 #[.slice none 0 0] w (NoOut w) := by
 go_enter Tryz.func119, Tryz.ntmps119
 go_wp2_with fail
 go_loop [3] (fun v => v = .int .i64 0) (fun _ => 0)
 case atStart => rfl
 case round =>
  obtain rfl := hrel
  go_wp2_with fail
  go_loop [5, 6] (fun v u => v = .slice none 0 0 ∧ u = .int .i64 0) (fun _ _ => 0)
  case atStart => exact ⟨rfl, rfl⟩
  case round =>
   obtain ⟨rfl, rfl⟩ := hrel
   go_wp2_with fail
   go_loop [9] (fun v => v = .int .i64 0) (fun _ => 0)
   case atStart => rfl
   case round =>
    obtain rfl := hrel
    go_wp2_with fail
    go_ret
    exact ⟨rfl, Below.refl _ _⟩

theorem noApartValues (w : World) : Calls Tryz.prog 120 #[.slice none 0 0] w (NoOut w) := by
 go_enter Tryz.func120, Tryz.ntmps120
 go_wp2_with fail
 go_loop [3] (fun v => v = .int .i64 0) (fun _ => 0)
 case atStart => rfl
 case round =>
  obtain rfl := hrel
  go_wp2_with fail
  go_loop [5, 6] (fun v u => v = .slice none 0 0 ∧ u = .int .i64 0) (fun _ _ => 0)
  case atStart => exact ⟨rfl, rfl⟩
  case round =>
   obtain ⟨rfl, rfl⟩ := hrel
   go_wp2_with fail
   go_loop [9] (fun v => v = .int .i64 0) (fun _ => 0)
   case atStart => rfl
   case round =>
    obtain rfl := hrel
    go_wp2_with fail
    go_ret
    exact ⟨rfl, Below.refl _ _⟩

theorem noApartSignals (w : World) : Calls Tryz.prog 122 #[.slice none 0 0] w (NoOut w) := by
 go_enter Tryz.func122, Tryz.ntmps122
 go_wp2_with fail
 go_loop [3] (fun v => v = .int .i64 0) (fun _ => 0)
 case atStart => rfl
 case round =>
  obtain rfl := hrel
  go_wp2_with fail
  go_loop [5, 6] (fun v u => v = .slice none 0 0 ∧ u = .int .i64 0) (fun _ _ => 0)
  case atStart => exact ⟨rfl, rfl⟩
  case round =>
   obtain ⟨rfl, rfl⟩ := hrel
   go_wp2_with fail
   go_loop [10] (fun v => v = .int .i64 0) (fun _ => 0)
   case atStart => rfl
   case round =>
    obtain rfl := hrel
    go_wp2_with fail
    go_ret
    exact ⟨rfl, Below.refl _ _⟩

theorem noApartMessages (w : World) : Calls Tryz.prog 123 #[.slice none 0 0] w (NoOut w) := by
 go_enter Tryz.func123, Tryz.ntmps123
 go_wp2_with fail
 go_loop [3] (fun v => v = .int .i64 0) (fun _ => 0)
 case atStart => rfl
 case round =>
  obtain rfl := hrel
  go_wp2_with fail
  go_loop [5, 6] (fun v u => v = .slice none 0 0 ∧ u = .int .i64 0) (fun _ _ => 0)
  case atStart => exact ⟨rfl, rfl⟩
  case round =>
   obtain ⟨rfl, rfl⟩ := hrel
   go_wp2_with fail
   go_loop [10] (fun v => v = .int .i64 0) (fun _ => 0)
   case atStart => rfl
   case round =>
    obtain rfl := hrel
    go_wp2_with fail
    go_ret
    exact ⟨rfl, Below.refl _ _⟩

theorem noApartTables (w : World) : Calls Tryz.prog 124 #[.slice none 0 0] w (NoOut w) := by
 go_enter Tryz.func124, Tryz.ntmps124
 go_wp2_with fail
 go_loop [3] (fun v => v = .int .i64 0) (fun _ => 0)
 case atStart => rfl
 case round =>
  obtain rfl := hrel
  go_wp2_with fail
  go_loop [5, 6] (fun v u => v = .slice none 0 0 ∧ u = .int .i64 0) (fun _ _ => 0)
  case atStart => exact ⟨rfl, rfl⟩
  case round =>
   obtain ⟨rfl, rfl⟩ := hrel
   go_wp2_with fail
   go_loop [10] (fun v => v = .int .i64 0) (fun _ => 0)
   case atStart => rfl
   case round =>
    obtain rfl := hrel
    go_wp2_with fail
    go_ret
    exact ⟨rfl, Below.refl _ _⟩

theorem noApartFrames (w : World) : Calls Tryz.prog 125 #[.slice none 0 0] w (NoOut w) := by
 go_enter Tryz.func125, Tryz.ntmps125
 go_wp2_with fail
 go_loop [3] (fun v => v = .int .i64 0) (fun _ => 0)
 case atStart => rfl
 case round =>
  obtain rfl := hrel
  go_wp2_with fail
  go_loop [5, 6] (fun v u => v = .slice none 0 0 ∧ u = .int .i64 0) (fun _ _ => 0)
  case atStart => exact ⟨rfl, rfl⟩
  case round =>
   obtain ⟨rfl, rfl⟩ := hrel
   go_wp2_with fail
   go_loop [10] (fun v => v = .int .i64 0) (fun _ => 0)
   case atStart => rfl
   case round =>
    obtain rfl := hrel
    go_wp2_with fail
    go_ret
    exact ⟨rfl, Below.refl _ _⟩

theorem noApartLines (w : World) : Calls Tryz.prog 126 #[.slice none 0 0] w (NoOut w) := by
 go_enter Tryz.func126, Tryz.ntmps126
 go_wp2_with fail
 go_loop [3] (fun v => v = .int .i64 0) (fun _ => 0)
 case atStart => rfl
 case round =>
  obtain rfl := hrel
  go_wp2_with fail
  go_loop [5, 6] (fun v u => v = .slice none 0 0 ∧ u = .int .i64 0) (fun _ _ => 0)
  case atStart => exact ⟨rfl, rfl⟩
  case round =>
   obtain ⟨rfl, rfl⟩ := hrel
   go_wp2_with fail
   go_loop [10] (fun v => v = .int .i64 0) (fun _ => 0)
   case atStart => rfl
   case round =>
    obtain rfl := hrel
    go_wp2_with fail
    go_ret
    exact ⟨rfl, Below.refl _ _⟩

end Code
end Go.Proofs.YtmpeipdeablkdaaGreatDoor

namespace Go.Proofs.YtmpeipdeablkdaaGreatDoor
open Go.RowKit
namespace Code
open Go.Proofs.YtmpeipdeablkdaaGreatDoor.Code.One
attribute [local go_sem ↓] Go.wp_at_zero Go.wp_at_succ

/-- the cells of a book -/
def bkF (s0 s3 s9 : Value) (j : Nat) : Value := if j = 0 then s0 else if j = 3 then s3 else if j = 9 then s9 else .slice none 0 0

theorem lt15 {k : Nat} (h : k < 15) : k = 0 ∨ k = 1 ∨ k = 2 ∨ k = 3 ∨ k = 4 ∨ k = 5 ∨ k = 6 ∨ k = 7 ∨ k = 8 ∨ k = 9 ∨ k = 10 ∨ k = 11 ∨ k = 12 ∨ k = 13 ∨ k = 14 := by omega

/-- a book in memory -/
structure BkAt (B0 : Nat) (r0 r3 r9 : List Value) (a0 : Option Addr) (c0 : Nat) (a3 : Option Addr) (c3 : Nat) (a9 : Option Addr) (c9 : Nat) (w : World) : Prop where
 blk : CellsAt w B0 118 15 (bkF (.slice a0 r0.length c0) (.slice a3 r3.length c3) (.slice a9 r9.length c9))
 o0 : OwnV 32 w (B0 + 1) a0 r0.length c0 r0
 o3 : OwnV 33 w (B0 + 1) a3 r3.length c3 r3
 o9 : OwnV 50 w (B0 + 1) a9 r9.length c9 r9

theorem BkAt.below {B0 : Nat} {r0 r3 r9 : List Value} {a0 : Option Addr} {c0 : Nat} {a3 : Option Addr} {c3 : Nat} {a9 : Option Addr} {c9 : Nat} {w w' : World} (h : BkAt B0 r0 r3 r9 a0 c0 a3 c3 a9 c9 w) (hb : Below w.heap.size w w') : BkAt B0 r0 r3 r9 a0 c0 a3 c3 a9 c9 w' :=
 ⟨CellsAt.of h.blk (hb.block B0 (CellsAt.blk h.blk)), h.o0.kept hb, h.o3.kept hb, h.o9.kept hb⟩

set_option maxRecDepth 100000 in
set_option maxHeartbeats 3200000 in
theorem bookBytes_any (B0 : Nat) (r0 r3 r9 : List Value) (a0 : Option Addr) (c0 : Nat) (a3 : Option Addr) (c3 : Nat) (a9 : Option Addr) (c9 : Nat) (la : Option Addr) (ln lc : Nat) (w : World) (h : BkAt B0 r0 r3 r9 a0 c0 a3 c3 a9 c9 w) (hn : r0.length ≤ 10) :
    Calls Tryz.prog 110 #[.pointer (some ⟨B0, 0, none⟩), .slice la ln lc] w (fun e w' => e = .returned (.tuple #[]) ∧ (∃ a' c', BkAt B0 (r0 ++ [.slice la ln lc]) r3 r9 a' c' a3 c3 a9 c9 w') ∧ Below B0 w w' ∧ (∀ q, q < w.heap.size → q ≠ B0 → a0 ≠ some ⟨q, 0, none⟩ → w'.heap[q]? = w.heap[q]?)) := by
 have H0 := Lib.hid h
 have hbl := CellsAt.blk h.blk
 have cj : w.cell? ⟨B0, 0, none⟩ = some (.slice a0 r0.length c0) := CellsAt.cell h.blk (j := 0) (by omega)
 have HOW := Lib.hid h.o0
 have hB1 : B0 + 1 ≤ w.heap.size := by omega
 obtain ⟨CB, hCB⟩ : ∃ C, w.heap[B0]? = some (.cells C 118 (0, 0)) := by
  obtain ⟨C, h1, _⟩ := h.blk
  exact ⟨C, h1⟩
 have haB : Hid (a0 ≠ some ⟨B0, 0, none⟩) := Lib.hid (fun e => by have := h.o0.own; rw [e] at this; exact own_ne this hCB (by decide) rfl)
 obtain ⟨nj, hnj⟩ : ∃ nj, r0.length = nj := ⟨_, rfl⟩
 have HNJ := Lib.hid hnj
 rw [hnj] at cj HOW hn
 have HCB := Lib.hid hCB
 clear h hCB hnj
 go_enter Tryz.func110, Tryz.ntmps110
 go_wp2_with (at_builtin; refine app_one Tryz.underlying103 infoLB rfl rfl _ _ rfl (B0 + 1) rfl HOW.out rfl rfl (by omega) (by omega) hB1 ?_; intro a' c' w1 hown1 hk1 hat1 hb1; have hblk1 := CellsAt.of H0.out.blk (hk1 B0 hbl haB.out); have cj' := CellsAt.cell hblk1 (j := 0) (by omega); have fj' := CellsAt.free hblk1 0)
 have hC1 := (hk1 B0 hbl haB.out).trans HCB.out
 have hkW : ∀ {E : TypeId} {a : Option Addr} {n c : Nat} {vs : List Value}, OwnV E w (B0 + 1) a n c vs → E ≠ 32 → E ≠ 118 → OwnV E (w1.setCell ⟨B0, 0, none⟩ (.slice a' (nj + 1) c')) (B0 + 1) a n c vs := by
  intro E a n c vs h he hT
  refine (h.keep (fun q hq => hk1 q ?_ ?_)).keep (fun q hq => blk_other _ ?_)
  ·have := h.own; rw [hq] at this; exact (this.lt q rfl).2
  ·intro e
   have h2 := h.own
   have h3 := HOW.out.own
   rw [hq] at h2
   rw [e] at h3
   exact own_own_ne h2 h3 he (b := q) rfl rfl
  ·have := h.own; rw [hq] at this; have h3 := (this.lt q rfl).1; intro e; simp only at e; omega
 go_end0
 refine ⟨rfl, ⟨a', c', ?_, ?_, ?_, ?_⟩, ?_, fun q hq h1 h2 => (blk_other _ (by simp only; exact h1)).trans (hk1 q hq h2)⟩
 ·refine (CellsAt.set hblk1 0 _).congr (fun i hi => ?_)
  have hl : (r0 ++ [Value.slice la ln lc]).length = nj + 1 := by rw [List.length_append, HNJ.out]; rfl
  rw [hl]
  rcases lt15 hi with rfl | rfl | rfl | rfl | rfl | rfl | rfl | rfl | rfl | rfl | rfl | rfl | rfl | rfl | rfl <;> rfl
 ·have hl : (r0 ++ [Value.slice la ln lc]).length = nj + 1 := by rw [List.length_append, HNJ.out]; rfl
  rw [hl]
  exact hown1.keep (fun q hq => blk_other _ (by have := hown1.own; rw [hq] at this; have h3 := (this.lt q rfl).1; intro e; simp only at e; omega))
 ·exact hkW H0.out.o3 (by decide) (by decide)
 ·exact hkW H0.out.o9 (by decide) (by decide)
 ·have hbm : Below B0 w w1 := hb1.mono (by omega)
  exact hbm.setCell (p := ⟨B0, 0, none⟩) (Nat.le_refl _) _

set_option maxRecDepth 100000 in
set_option maxHeartbeats 3200000 in
theorem bookNumbers_any (B0 : Nat) (r0 r3 r9 : List Value) (a0 : Option Addr) (c0 : Nat) (a3 : Option Addr) (c3 : Nat) (a9 : Option Addr) (c9 : Nat) (la : Option Addr) (ln lc : Nat) (w : World) (h : BkAt B0 r0 r3 r9 a0 c0 a3 c3 a9 c9 w) (hn : r3.length ≤ 10) :
    Calls Tryz.prog 111 #[.pointer (some ⟨B0, 0, none⟩), .slice la ln lc] w (fun e w' => e = .returned (.tuple #[]) ∧ (∃ a' c', BkAt B0 r0 (r3 ++ [.slice la ln lc]) r9 a0 c0 a' c' a9 c9 w') ∧ Below B0 w w' ∧ (∀ q, q < w.heap.size → q ≠ B0 → a3 ≠ some ⟨q, 0, none⟩ → w'.heap[q]? = w.heap[q]?)) := by
 have H0 := Lib.hid h
 have hbl := CellsAt.blk h.blk
 have cj : w.cell? ⟨B0, 3, none⟩ = some (.slice a3 r3.length c3) := CellsAt.cell h.blk (j := 3) (by omega)
 have HOW := Lib.hid h.o3
 have hB1 : B0 + 1 ≤ w.heap.size := by omega
 obtain ⟨CB, hCB⟩ : ∃ C, w.heap[B0]? = some (.cells C 118 (0, 0)) := by
  obtain ⟨C, h1, _⟩ := h.blk
  exact ⟨C, h1⟩
 have haB : Hid (a3 ≠ some ⟨B0, 0, none⟩) := Lib.hid (fun e => by have := h.o3.own; rw [e] at this; exact own_ne this hCB (by decide) rfl)
 obtain ⟨nj, hnj⟩ : ∃ nj, r3.length = nj := ⟨_, rfl⟩
 have HNJ := Lib.hid hnj
 rw [hnj] at cj HOW hn
 have HCB := Lib.hid hCB
 clear h hCB hnj
 go_enter Tryz.func111, Tryz.ntmps111
 go_wp2_with (at_builtin; refine app_one Tryz.underlying106 infoLN rfl rfl _ _ rfl (B0 + 1) rfl HOW.out rfl rfl (by omega) (by omega) hB1 ?_; intro a' c' w1 hown1 hk1 hat1 hb1; have hblk1 := CellsAt.of H0.out.blk (hk1 B0 hbl haB.out); have cj' := CellsAt.cell hblk1 (j := 3) (by omega); have fj' := CellsAt.free hblk1 3)
 have hC1 := (hk1 B0 hbl haB.out).trans HCB.out
 have hkW : ∀ {E : TypeId} {a : Option Addr} {n c : Nat} {vs : List Value}, OwnV E w (B0 + 1) a n c vs → E ≠ 33 → E ≠ 118 → OwnV E (w1.setCell ⟨B0, 3, none⟩ (.slice a' (nj + 1) c')) (B0 + 1) a n c vs := by
  intro E a n c vs h he hT
  refine (h.keep (fun q hq => hk1 q ?_ ?_)).keep (fun q hq => blk_other _ ?_)
  ·have := h.own; rw [hq] at this; exact (this.lt q rfl).2
  ·intro e
   have h2 := h.own
   have h3 := HOW.out.own
   rw [hq] at h2
   rw [e] at h3
   exact own_own_ne h2 h3 he (b := q) rfl rfl
  ·have := h.own; rw [hq] at this; have h3 := (this.lt q rfl).1; intro e; simp only at e; omega
 go_end0
 refine ⟨rfl, ⟨a', c', ?_, ?_, ?_, ?_⟩, ?_, fun q hq h1 h2 => (blk_other _ (by simp only; exact h1)).trans (hk1 q hq h2)⟩
 ·refine (CellsAt.set hblk1 3 _).congr (fun i hi => ?_)
  have hl : (r3 ++ [Value.slice la ln lc]).length = nj + 1 := by rw [List.length_append, HNJ.out]; rfl
  rw [hl]
  rcases lt15 hi with rfl | rfl | rfl | rfl | rfl | rfl | rfl | rfl | rfl | rfl | rfl | rfl | rfl | rfl | rfl <;> rfl
 ·exact hkW H0.out.o0 (by decide) (by decide)
 ·have hl : (r3 ++ [Value.slice la ln lc]).length = nj + 1 := by rw [List.length_append, HNJ.out]; rfl
  rw [hl]
  exact hown1.keep (fun q hq => blk_other _ (by have := hown1.own; rw [hq] at this; have h3 := (this.lt q rfl).1; intro e; simp only at e; omega))
 ·exact hkW H0.out.o9 (by decide) (by decide)
 ·have hbm : Below B0 w w1 := hb1.mono (by omega)
  exact hbm.setCell (p := ⟨B0, 3, none⟩) (Nat.le_refl _) _

set_option maxRecDepth 100000 in
set_option maxHeartbeats 3200000 in
theorem bookBools_any (B0 : Nat) (r0 r3 r9 : List Value) (a0 : Option Addr) (c0 : Nat) (a3 : Option Addr) (c3 : Nat) (a9 : Option Addr) (c9 : Nat) (la : Option Addr) (ln lc : Nat) (w : World) (h : BkAt B0 r0 r3 r9 a0 c0 a3 c3 a9 c9 w) (hn : r9.length ≤ 10) :
    Calls Tryz.prog 112 #[.pointer (some ⟨B0, 0, none⟩), .slice la ln lc] w (fun e w' => e = .returned (.tuple #[]) ∧ (∃ a' c', BkAt B0 r0 r3 (r9 ++ [.slice la ln lc]) a0 c0 a3 c3 a' c' w') ∧ Below B0 w w' ∧ (∀ q, q < w.heap.size → q ≠ B0 → a9 ≠ some ⟨q, 0, none⟩ → w'.heap[q]? = w.heap[q]?)) := by
 have H0 := Lib.hid h
 have hbl := CellsAt.blk h.blk
 have cj : w.cell? ⟨B0, 9, none⟩ = some (.slice a9 r9.length c9) := CellsAt.cell h.blk (j := 9) (by omega)
 have HOW := Lib.hid h.o9
 have hB1 : B0 + 1 ≤ w.heap.size := by omega
 obtain ⟨CB, hCB⟩ : ∃ C, w.heap[B0]? = some (.cells C 118 (0, 0)) := by
  obtain ⟨C, h1, _⟩ := h.blk
  exact ⟨C, h1⟩
 have haB : Hid (a9 ≠ some ⟨B0, 0, none⟩) := Lib.hid (fun e => by have := h.o9.own; rw [e] at this; exact own_ne this hCB (by decide) rfl)
 obtain ⟨nj, hnj⟩ : ∃ nj, r9.length = nj := ⟨_, rfl⟩
 have HNJ := Lib.hid hnj
 rw [hnj] at cj HOW hn
 have HCB := Lib.hid hCB
 clear h hCB hnj
 go_enter Tryz.func112, Tryz.ntmps112
 go_wp2_with (at_builtin; refine app_one Tryz.underlying111 infoLO rfl rfl _ _ rfl (B0 + 1) rfl HOW.out rfl rfl (by omega) (by omega) hB1 ?_; intro a' c' w1 hown1 hk1 hat1 hb1; have hblk1 := CellsAt.of H0.out.blk (hk1 B0 hbl haB.out); have cj' := CellsAt.cell hblk1 (j := 9) (by omega); have fj' := CellsAt.free hblk1 9)
 have hC1 := (hk1 B0 hbl haB.out).trans HCB.out
 have hkW : ∀ {E : TypeId} {a : Option Addr} {n c : Nat} {vs : List Value}, OwnV E w (B0 + 1) a n c vs → E ≠ 50 → E ≠ 118 → OwnV E (w1.setCell ⟨B0, 9, none⟩ (.slice a' (nj + 1) c')) (B0 + 1) a n c vs := by
  intro E a n c vs h he hT
  refine (h.keep (fun q hq => hk1 q ?_ ?_)).keep (fun q hq => blk_other _ ?_)
  ·have := h.own; rw [hq] at this; exact (this.lt q rfl).2
  ·intro e
   have h2 := h.own
   have h3 := HOW.out.own
   rw [hq] at h2
   rw [e] at h3
   exact own_own_ne h2 h3 he (b := q) rfl rfl
  ·have := h.own; rw [hq] at this; have h3 := (this.lt q rfl).1; intro e; simp only at e; omega
 go_end0
 refine ⟨rfl, ⟨a', c', ?_, ?_, ?_, ?_⟩, ?_, fun q hq h1 h2 => (blk_other _ (by simp only; exact h1)).trans (hk1 q hq h2)⟩
 ·refine (CellsAt.set hblk1 9 _).congr (fun i hi => ?_)
  have hl : (r9 ++ [Value.slice la ln lc]).length = nj + 1 := by rw [List.length_append, HNJ.out]; rfl
  rw [hl]
  rcases lt15 hi with rfl | rfl | rfl | rfl | rfl | rfl | rfl | rfl | rfl | rfl | rfl | rfl | rfl | rfl | rfl <;> rfl
 ·exact hkW H0.out.o0 (by decide) (by decide)
 ·exact hkW H0.out.o3 (by decide) (by decide)
 ·have hl : (r9 ++ [Value.slice la ln lc]).length = nj + 1 := by rw [List.length_append, HNJ.out]; rfl
  rw [hl]
  exact hown1.keep (fun q hq => blk_other _ (by have := hown1.own; rw [hq] at this; have h3 := (this.lt q rfl).1; intro e; simp only at e; omega))
 ·have hbm : Below B0 w w1 := hb1.mono (by omega)
  exact hbm.setCell (p := ⟨B0, 9, none⟩) (Nat.le_refl _) _

set_option maxRecDepth 100000 in
set_option maxHeartbeats 3200000 in
theorem bookRan_any (B0 : Nat) (r0 r3 r9 : List Value) (a0 : Option Addr) (c0 : Nat) (a3 : Option Addr) (c3 : Nat) (a9 : Option Addr) (c9 : Nat) (f : Bool) (k n : Int) (p1 p2 p3 : Option Addr) (m1 d1 m2 d2 m3 d3 : Nat) (w : World) (h : BkAt B0 r0 r3 r9 a0 c0 a3 c3 a9 c9 w) (h0 : r0.length ≤ 10) (h3 : r3.length ≤ 10) (h9 : r9.length ≤ 10) :
    Calls Tryz.prog 73 #[.pointer (some ⟨B0, 0, none⟩), .agg #[.bool f, .int .i64 k, .slice p1 m1 d1, .slice p2 m2 d2, .slice p3 m3 d3, .int .i64 n]] w (fun e w' => e = .returned (.tuple #[]) ∧ (∃ a0' c0' a3' c3' a9' c9', BkAt B0 (r0 ++ [.slice p1 m1 d1]) (r3 ++ [.slice p2 m2 d2]) (r9 ++ [.slice p3 m3 d3]) a0' c0' a3' c3' a9' c9' w') ∧ Below B0 w w') := by
 obtain ⟨w1, hw1⟩ : ∃ w1, w.alloc (.cells #[.bool f, .int .i64 k, .slice p1 m1 d1, .slice p2 m2 d2, .slice p3 m3 d3, .int .i64 n] 52) = w1 := ⟨_, rfl⟩
 have HBW : Hid (Below w.heap.size w w1) := by rw [← hw1]; exact Lib.hid ((Below.refl _ _).alloc (Nat.le_refl _) _)
 have hX : w1.heap[w.heap.size]? = some (.cells #[.bool f, .int .i64 k, .slice p1 m1 d1, .slice p2 m2 d2, .slice p3 m3 d3, .int .i64 n] 52 (0, 0)) := by rw [← hw1]; exact heap_alloc_new w _
 have H1 := Lib.hid (h.below HBW.out)
 have hB0 := CellsAt.blk h.blk
 have HA3 : Hid (∀ q, a3 = some ⟨q, 0, none⟩ → q < w.heap.size) := Lib.hid (fun q e => by have := h.o3.own; rw [e] at this; exact (this.lt q rfl).2)
 have HA0 : Hid (∀ q, a0 = some ⟨q, 0, none⟩ → q < w.heap.size) := Lib.hid (fun q e => by have := h.o0.own; rw [e] at this; exact (this.lt q rfl).2)
 have c2 : w1.cell? ⟨w.heap.size, 2, none⟩ = some (.slice p1 m1 d1) := by rw [cell_of_row _ _ _ _ _ _ hX]; rfl
 have hXl := lt_of_block hX
 have HX := Lib.hid hX
 clear h hX
 go_enter Tryz.func73, Tryz.ntmps73
 go_upto_region 1 with fail
 try rw [hw1]
 clear hw1
 go_wp2_with fail
 refine (bookBytes_any B0 r0 r3 r9 a0 c0 a3 c3 a9 c9 p1 m1 d1 w1 H1.out h0).mono ?_
 rintro e w2 ⟨rfl, ⟨b0, e0, hbk2⟩, hb2, hk2⟩
 have hX2 := (hk2 w.heap.size hXl (by omega) (fun e => by have := HA0.out _ e; omega)).trans HX.out
 have H2 := Lib.hid hbk2
 have HX2 := Lib.hid hX2
 have c3' : w2.cell? ⟨w.heap.size, 3, none⟩ = some (.slice p2 m2 d2) := by rw [cell_of_row _ _ _ _ _ _ hX2]; rfl
 have hXl2 := lt_of_block hX2
 have HB2 := Lib.hid ((HBW.out.mono (Nat.le_of_lt hB0)).trans hb2)
 clear c2 hbk2 hb2 hk2 hX2 HBW H1
 go_wp2_with fail
 refine (bookNumbers_any B0 _ r3 r9 b0 e0 a3 c3 a9 c9 p2 m2 d2 w2 H2.out h3).mono ?_
 rintro e w3 ⟨rfl, ⟨b3, e3, hbk3⟩, hb3, hk3⟩
 have hX3 := (hk3 w.heap.size hXl2 (by omega) (fun e => by have := HA3.out _ e; omega)).trans HX2.out
 have H3 := Lib.hid hbk3
 have c4' : w3.cell? ⟨w.heap.size, 4, none⟩ = some (.slice p3 m3 d3) := by rw [cell_of_row _ _ _ _ _ _ hX3]; rfl
 have HB3 := Lib.hid (HB2.out.trans hb3)
 clear c3' hbk3 hb3 hk3 hX3 H2 HB2
 go_wp2_with fail
 refine (bookBools_any B0 _ _ r9 b0 e0 b3 e3 a9 c9 p3 m3 d3 w3 H3.out h9).mono ?_
 rintro e w4 ⟨rfl, ⟨b9, e9, hbk4⟩, hb4, _⟩
 have H4 := Lib.hid hbk4
 have HB4 := Lib.hid (HB3.out.trans hb4)
 clear c4' hbk4 hb4 H3 HB3
 go_wp2_with fail
 go_end0
 exact ⟨rfl, ⟨_, _, _, _, _, _, H4.out⟩, HB4.out⟩

set_option maxRecDepth 100000 in
set_option maxHeartbeats 12800000 in
theorem bookApart_any (B0 N g0 g3 g9 k0 k3 k9 : Nat) (A0 A3 A9 : Nat → Option Addr) (n0 n3 n9 d0 d3 d9 : Nat → Nat) (X0 X3 : Nat → List Value) (X9 : Nat → List Bool) (w : World)
    (h : CellsAt w B0 118 15 (bkF (.slice (some ⟨g0, 0, none⟩) 2 k0) (.slice (some ⟨g3, 0, none⟩) 2 k3) (.slice (some ⟨g9, 0, none⟩) 2 k9)))
    (h0 : Lists 5 32 N g0 A0 n0 d0 X0 w) (h3 : Lists 22 33 N g3 A3 n3 d3 X3 w) (h9 : Lists 4 50 N g9 A9 n9 d9 (fun q => (X9 q).map Value.bool) w)
    (hn0 : ∀ k, n0 k ≤ 20000) (hn3 : ∀ k, n3 k ≤ 20000) (hn9 : ∀ k, n9 k ≤ 20000) (hN : N ≤ w.heap.size) (hg0 : N ≤ g0) (hg3 : N ≤ g3) (hg9 : N ≤ g9) :
    Calls Tryz.prog 74 #[.pointer (some ⟨B0, 0, none⟩)] w (fun e w' => e = .returned (.bool true) ∧ Below N w w') := by
 have H0 := Lib.hid h
 have L0 := Lib.hid h0
 have L3 := Lib.hid h3
 have L9 := Lib.hid h9
 have HS0 := Lib.hid (Below.refl N w)
 have c0 : w.cell? ⟨B0, 0, none⟩ = some (.slice (some ⟨g0, 0, none⟩) 2 k0) := CellsAt.cell h (j := 0) (by omega)
 clear h h0 h3 h9
 go_enter Tryz.func74, Tryz.ntmps74
 go_wp2_with fail
 refine (apartB_any N g0 A0 n0 d0 X0 k0 w L0.out hn0 (by have := HS0.out.size; omega) hg0).mono ?_
 rintro e w1 ⟨rfl, hk0⟩
 have hB0 : ∀ q, q < 2 → A0 q ≠ some ⟨B0, 0, none⟩ := fun q hq e => by
  obtain ⟨C, hC, _⟩ := H0.out
  have := (L0.out.own q hq).own
  rw [e] at this
  exact own_ne this hC (by decide) rfl
 have hc0 := CellsAt.of H0.out (hk0.keep B0 (CellsAt.blk H0.out) hB0)
 have HS1 := Lib.hid (HS0.out.trans hk0.bel)
 replace L3 := Lib.hid (L3.out.kp L0.out hk0 (by decide) (by decide))
 replace L9 := Lib.hid (L9.out.kp L0.out hk0 (by decide) (by decide))
 clear c0 hk0 hB0 H0
 have c1 : w1.cell? ⟨B0, 1, none⟩ = some (.slice none 0 0) := CellsAt.cell hc0 (j := 1) (by omega)
 have Hc0 := Lib.hid hc0
 clear hc0
 go_wp2_with fail
 refine (noApartTexts w1).mono ?_
 rintro e w2 ⟨rfl, hb1⟩
 have hc1 := CellsAt.below Hc0.out hb1 (CellsAt.blk Hc0.out)
 have HS2 := Lib.hid (HS1.out.trans (hb1.mono (by have := HS1.out.size; omega)))
 replace L3 := Lib.hid (L3.out.below hb1)
 replace L9 := Lib.hid (L9.out.below hb1)
 clear c1 hb1 Hc0
 have c2 : w2.cell? ⟨B0, 2, none⟩ = some (.slice none 0 0) := CellsAt.cell hc1 (j := 2) (by omega)
 have Hc1 := Lib.hid hc1
 clear hc1
 go_wp2_with fail
 refine (noApartInts w2).mono ?_
 rintro e w3 ⟨rfl, hb2⟩
 have hc2 := CellsAt.below Hc1.out hb2 (CellsAt.blk Hc1.out)
 have HS3 := Lib.hid (HS2.out.trans (hb2.mono (by have := HS2.out.size; omega)))
 replace L3 := Lib.hid (L3.out.below hb2)
 replace L9 := Lib.hid (L9.out.below hb2)
 clear c2 hb2 Hc1
 have c3 : w3.cell? ⟨B0, 3, none⟩ = some (.slice (some ⟨g3, 0, none⟩) 2 k3) := CellsAt.cell hc2 (j := 3) (by omega)
 have Hc2 := Lib.hid hc2
 clear hc2
 go_wp2_with fail
 refine (apartN_any N g3 A3 n3 d3 X3 k3 w3 L3.out hn3 (by have := HS3.out.size; omega) hg3).mono ?_
 rintro e w4 ⟨rfl, hk3⟩
 have hB3 : ∀ q, q < 2 → A3 q ≠ some ⟨B0, 0, none⟩ := fun q hq e => by
  obtain ⟨C, hC, _⟩ := Hc2.out
  have := (L3.out.own q hq).own
  rw [e] at this
  exact own_ne this hC (by decide) rfl
 have hc3 := CellsAt.of Hc2.out (hk3.keep B0 (CellsAt.blk Hc2.out) hB3)
 have HS4 := Lib.hid (HS3.out.trans hk3.bel)
 replace L9 := Lib.hid (L9.out.kp L3.out hk3 (by decide) (by decide))
 clear c3 hk3 hB3 Hc2
 have c4 : w4.cell? ⟨B0, 4, none⟩ = some (.slice none 0 0) := CellsAt.cell hc3 (j := 4) (by omega)
 have Hc3 := Lib.hid hc3
 clear hc3
 go_wp2_with fail
 refine (noApartTokens w4).mono ?_
 rintro e w5 ⟨rfl, hb4⟩
 have hc4 := CellsAt.below Hc3.out hb4 (CellsAt.blk Hc3.out)
 have HS5 := Lib.hid (HS4.out.trans (hb4.mono (by have := HS4.out.size; omega)))
 replace L9 := Lib.hid (L9.out.below hb4)
 clear c4 hb4 Hc3
 have c5 : w5.cell? ⟨B0, 5, none⟩ = some (.slice none 0 0) := CellsAt.cell hc4 (j := 5) (by omega)
 have Hc4 := Lib.hid hc4
 clear hc4
 go_wp2_with fail
 refine (noApartRows w5).mono ?_
 rintro e w6 ⟨rfl, hb5⟩
 have hc5 := CellsAt.below Hc4.out hb5 (CellsAt.blk Hc4.out)
 have HS6 := Lib.hid (HS5.out.trans (hb5.mono (by have := HS5.out.size; omega)))
 replace L9 := Lib.hid (L9.out.below hb5)
 clear c5 hb5 Hc4
 have c6 : w6.cell? ⟨B0, 6, none⟩ = some (.slice none 0 0) := CellsAt.cell hc5 (j := 6) (by omega)
 have Hc5 := Lib.hid hc5
 clear hc5
 go_wp2_with fail
 refine (noApartInstrs w6).mono ?_
 rintro e w7 ⟨rfl, hb6⟩
 have hc6 := CellsAt.below Hc5.out hb6 (CellsAt.blk Hc5.out)
 have HS7 := Lib.hid (HS6.out.trans (hb6.mono (by have := HS6.out.size; omega)))
 replace L9 := Lib.hid (L9.out.below hb6)
 clear c6 hb6 Hc5
 have c7 : w7.cell? ⟨B0, 7, none⟩ = some (.slice none 0 0) := CellsAt.cell hc6 (j := 7) (by omega)
 have Hc6 := Lib.hid hc6
 clear hc6
 go_wp2_with fail
 refine (noApartRules w7).mono ?_
 rintro e w8 ⟨rfl, hb7⟩
 have hc7 := CellsAt.below Hc6.out hb7 (CellsAt.blk Hc6.out)
 have HS8 := Lib.hid (HS7.out.trans (hb7.mono (by have := HS7.out.size; omega)))
 replace L9 := Lib.hid (L9.out.below hb7)
 clear c7 hb7 Hc6
 have c8 : w8.cell? ⟨B0, 8, none⟩ = some (.slice none 0 0) := CellsAt.cell hc7 (j := 8) (by omega)
 have Hc7 := Lib.hid hc7
 clear hc7
 go_wp2_with fail
 refine (noApartValues w8).mono ?_
 rintro e w9 ⟨rfl, hb8⟩
 have hc8 := CellsAt.below Hc7.out hb8 (CellsAt.blk Hc7.out)
 have HS9 := Lib.hid (HS8.out.trans (hb8.mono (by have := HS8.out.size; omega)))
 replace L9 := Lib.hid (L9.out.below hb8)
 clear c8 hb8 Hc7
 have c9 : w9.cell? ⟨B0, 9, none⟩ = some (.slice (some ⟨g9, 0, none⟩) 2 k9) := CellsAt.cell hc8 (j := 9) (by omega)
 have Hc8 := Lib.hid hc8
 clear hc8
 go_wp2_with fail
 refine (apartO_any N g9 A9 n9 d9 X9 k9 w9 L9.out hn9 (by have := HS9.out.size; omega) hg9).mono ?_
 rintro e w10 ⟨rfl, hk9⟩
 have hB9 : ∀ q, q < 2 → A9 q ≠ some ⟨B0, 0, none⟩ := fun q hq e => by
  obtain ⟨C, hC, _⟩ := Hc8.out
  have := (L9.out.own q hq).own
  rw [e] at this
  exact own_ne this hC (by decide) rfl
 have hc9 := CellsAt.of Hc8.out (hk9.keep B0 (CellsAt.blk Hc8.out) hB9)
 have HS10 := Lib.hid (HS9.out.trans hk9.bel)
 clear c9 hk9 hB9 Hc8
 have c10 : w10.cell? ⟨B0, 10, none⟩ = some (.slice none 0 0) := CellsAt.cell hc9 (j := 10) (by omega)
 have Hc9 := Lib.hid hc9
 clear hc9
 go_wp2_with fail
 refine (noApartSignals w10).mono ?_
 rintro e w11 ⟨rfl, hb10⟩
 have hc10 := CellsAt.below Hc9.out hb10 (CellsAt.blk Hc9.out)
 have HS11 := Lib.hid (HS10.out.trans (hb10.mono (by have := HS10.out.size; omega)))
 clear c10 hb10 Hc9
 have c11 : w11.cell? ⟨B0, 11, none⟩ = some (.slice none 0 0) := CellsAt.cell hc10 (j := 11) (by omega)
 have Hc10 := Lib.hid hc10
 clear hc10
 go_wp2_with fail
 refine (noApartMessages w11).mono ?_
 rintro e w12 ⟨rfl, hb11⟩
 have hc11 := CellsAt.below Hc10.out hb11 (CellsAt.blk Hc10.out)
 have HS12 := Lib.hid (HS11.out.trans (hb11.mono (by have := HS11.out.size; omega)))
 clear c11 hb11 Hc10
 have c12 : w12.cell? ⟨B0, 12, none⟩ = some (.slice none 0 0) := CellsAt.cell hc11 (j := 12) (by omega)
 have Hc11 := Lib.hid hc11
 clear hc11
 go_wp2_with fail
 refine (noApartTables w12).mono ?_
 rintro e w13 ⟨rfl, hb12⟩
 have hc12 := CellsAt.below Hc11.out hb12 (CellsAt.blk Hc11.out)
 have HS13 := Lib.hid (HS12.out.trans (hb12.mono (by have := HS12.out.size; omega)))
 clear c12 hb12 Hc11
 have c13 : w13.cell? ⟨B0, 13, none⟩ = some (.slice none 0 0) := CellsAt.cell hc12 (j := 13) (by omega)
 have Hc12 := Lib.hid hc12
 clear hc12
 go_wp2_with fail
 refine (noApartFrames w13).mono ?_
 rintro e w14 ⟨rfl, hb13⟩
 have hc13 := CellsAt.below Hc12.out hb13 (CellsAt.blk Hc12.out)
 have HS14 := Lib.hid (HS13.out.trans (hb13.mono (by have := HS13.out.size; omega)))
 clear c13 hb13 Hc12
 have c14 : w14.cell? ⟨B0, 14, none⟩ = some (.slice none 0 0) := CellsAt.cell hc13 (j := 14) (by omega)
 have Hc13 := Lib.hid hc13
 clear hc13
 go_wp2_with fail
 refine (noApartLines w14).mono ?_
 rintro e w15 ⟨rfl, hb14⟩
 have hc14 := CellsAt.below Hc13.out hb14 (CellsAt.blk Hc13.out)
 have HS15 := Lib.hid (HS14.out.trans (hb14.mono (by have := HS14.out.size; omega)))
 clear c14 hb14 Hc13
 go_wp2_with fail
 go_ret
 exact ⟨rfl, HS15.out⟩

end Code
end Go.Proofs.YtmpeipdeablkdaaGreatDoor
