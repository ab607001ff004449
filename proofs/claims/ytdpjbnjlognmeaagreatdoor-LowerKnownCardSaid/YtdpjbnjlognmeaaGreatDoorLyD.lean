/- Lists of signals of a call's own, with their takers. -/
import Derived.Test.YtdpjbnjlognmeaaGreatDoorLwO
import Derived.Test.YtdpjbnjlognmeaaGreatDoorLwE
namespace Go.Proofs.YtdpjbnjlognmeaaGreatDoor
open Go.RowKit

namespace Code

/-- a list of texts, in a block of texts -/
def ToAt (w : World) (tv : Value) (dest : List ByteArray) : Prop :=
 ∃ a k c, tv = .slice a k c ∧ ListAt w a k (dest.map Value.string) ∧ k ≤ 9223372036854775807 ∧ ∀ b o, a = some ⟨b, o, none⟩ → ∃ C, w.heap[b]? = some (.cells C 9 (0, 0))

theorem ToAt.keep {w w' : World} {tv : Value} {dest : List ByteArray} (h : ToAt w tv dest) (he : ∀ (b : Nat) (C : Array Value), w.heap[b]? = some (.cells C 9 (0, 0)) → w'.heap[b]? = w.heap[b]?) : ToAt w' tv dest := by
 obtain ⟨a, k, c, rfl, hl, hk, hb⟩ := h
 refine ⟨a, k, c, rfl, ⟨hl.len, fun i v hv => ?_⟩, hk, fun b o e => ?_⟩
 ·obtain ⟨b, o, e, hlt, hc⟩ := hl.at_ i v hv
  obtain ⟨C, hC⟩ := hb b o e
  have hq := he b C hC
  refine ⟨b, o, e, lt_of_block (hq.trans hC), ?_⟩
  rw [← hc]
  exact World.cell?_of_block (a := ⟨b, o + i, none⟩) hq
 ·obtain ⟨C, hC⟩ := hb b o e
  exact ⟨C, (he b C hC).trans hC⟩

theorem ToAt.below {N : Nat} {w w' : World} {tv : Value} {dest : List ByteArray} (h : ToAt w tv dest) (hb : Below N w w') (hN : w.heap.size ≤ N) : ToAt w' tv dest :=
 h.keep fun b C hC => hb.block b (Nat.lt_of_lt_of_le (lt_of_block hC) hN)

/-- a list of signals of the call's own -/
structure OwnSg (w : World) (base : Nat) (ao : Option Addr) (n cap : Nat) (L : List (B.Sig × Value)) : Prop where
 len : n = L.length
 own : ∃ xs, w.ownsRow base 40 19 (.slice ao n cap) n xs ∧ ∀ i p, L[i]? = some p → ∀ j, j < 19 → xs[i * 19 + j]? = (sigC p.1 p.2)[j]?
 to_ : ∀ p ∈ L, ToAt w p.2 p.1.dest

theorem OwnSg.nil (w : World) (base : Nat) : OwnSg w base none 0 0 [] := ⟨rfl, ⟨[], World.ownsRow_nil _ _ _ _, fun i p h => by simp at h⟩, fun p h => by cases h⟩

theorem OwnSg.form {w : World} {base n cap : Nat} {ao : Option Addr} {L : List (B.Sig × Value)} (h : OwnSg w base ao n cap L) : (ao = none ∧ n = 0 ∧ cap = 0) ∨ ∃ g, ao = some ⟨g, 0, none⟩ ∧ base ≤ g ∧ g < w.heap.size ∧ ∃ C, w.heap[g]? = some (.cells C 40 (0, 0)) := by
 obtain ⟨xs, h1, _⟩ := h.own
 rcases h1.2 with ⟨h0, h2⟩ | ⟨g, c, cur, e, hb, hh, h3⟩
 ·injection h0 with e1 e2 e3
  exact .inl ⟨e1, h2, e3⟩
 ·have hh2 := lt_of_block hh
  injection e with e _ _
  exact .inr ⟨g, e, hb, hh2, cur, hh⟩

theorem OwnSg.cell {w : World} {base n cap g : Nat} {L : List (B.Sig × Value)} (h : OwnSg w base (some ⟨g, 0, none⟩) n cap L) {i j : Nat} {p : B.Sig × Value} (hp : L[i]? = some p) (hj : j < 19) : w.cell? ⟨g, i * 19 + j, none⟩ = (sigC p.1 p.2)[j]? := by
 obtain ⟨xs, h1, h2⟩ := h.own
 have hi := (List.getElem?_eq_some_iff.1 hp).1
 have hl := h.len
 rw [h1.cellAt (i * 19 + j) (by omega), h2 i p hp j hj]

theorem OwnSg.free {w : World} {base n cap g : Nat} {L : List (B.Sig × Value)} (h : OwnSg w base (some ⟨g, 0, none⟩) n cap L) (j : Nat) : w.frozen? ⟨g, j, none⟩ = false := by
 rcases h.form with ⟨e, _⟩ | ⟨g', e, _, _, C, hC⟩
 ·cases e
 ·injection e with e
  injection e with e _ _
  subst e
  simp [World.frozen?, hC]

theorem OwnSg.sigsAt {w : World} {base n cap : Nat} {ao : Option Addr} {L : List (B.Sig × Value)} (h : OwnSg w base ao n cap L) : SigsAt w ao n (L.map (·.1)) := by
 refine ⟨by rw [List.length_map]; exact h.len, fun i s hs => ?_⟩
 rw [List.getElem?_map] at hs
 obtain ⟨p, hp, rfl⟩ := Option.map_eq_some_iff.1 hs
 have hi := (List.getElem?_eq_some_iff.1 hp).1
 have hl := h.len
 rcases h.form with ⟨_, h0, _⟩ | ⟨g, rfl, hb, hlt, _⟩
 ·omega
 ·obtain ⟨a, k, c, htv, hto, hk, _⟩ := h.to_ p (List.mem_of_getElem? hp)
  refine ⟨g, 0, rfl, hlt, a, k, c, fun j v hv => ?_, hto, hk⟩
  rw [← htv, Array.getElem?_toList] at hv
  have hj : j < 19 := by have := (Array.getElem?_eq_some_iff.1 hv).1; simpa [sigC] using this
  rw [Nat.zero_add, h.cell hp hj]
  exact hv

theorem OwnSg.keep {w w' : World} {base n cap : Nat} {ao : Option Addr} {L : List (B.Sig × Value)} (h : OwnSg w base ao n cap L) (he : ∀ g, ao = some ⟨g, 0, none⟩ → w'.heap[g]? = w.heap[g]?) (ht : ∀ (b : Nat) (C : Array Value), w.heap[b]? = some (.cells C 9 (0, 0)) → w'.heap[b]? = w.heap[b]?) : OwnSg w' base ao n cap L := by
 refine ⟨h.len, ?_, fun p hp => (h.to_ p hp).keep ht⟩
 obtain ⟨xs, h1, h2⟩ := h.own
 refine ⟨xs, ⟨h1.1, ?_⟩, h2⟩
 rcases h1.2 with h3 | ⟨g', c, cur, e, hb, hh, h3⟩
 ·exact .inl h3
 ·refine .inr ⟨g', c, cur, e, hb, ?_, h3⟩
  injection e with e _ _
  exact (he g' e).trans hh

theorem OwnSg.kept {w w' : World} {base n cap : Nat} {ao : Option Addr} {L : List (B.Sig × Value)} (h : OwnSg w base ao n cap L) (hb : Below w.heap.size w w') : OwnSg w' base ao n cap L := by
 refine h.keep (fun g e => ?_) (fun b C hC => hb.block b (lt_of_block hC))
 rcases h.form with ⟨e0, _⟩ | ⟨g', e1, _, hlt, _⟩
 ·rw [e0] at e; cases e
 ·rw [e1] at e
  injection e with e
  injection e with e _ _
  subst e
  exact hb.block _ hlt

theorem OwnSg.weaken {w : World} {base base' n cap : Nat} {ao : Option Addr} {L : List (B.Sig × Value)} (h : OwnSg w base ao n cap L) (hb : base' ≤ base) : OwnSg w base' ao n cap L := by
 refine ⟨h.len, ?_, h.to_⟩
 obtain ⟨xs, h1, h2⟩ := h.own
 refine ⟨xs, ⟨h1.1, ?_⟩, h2⟩
 rcases h1.2 with h3 | ⟨g', c, cur, e, hbb, h3⟩
 ·exact .inl h3
 ·exact .inr ⟨g', c, cur, e, Nat.le_trans hb hbb, h3⟩

/-- some cells of a signal are stored -/
theorem OwnSg.puts {w : World} {base n cap g : Nat} {L : List (B.Sig × Value)} (h : OwnSg w base (some ⟨g, 0, none⟩) n cap L) {i f : Nat} {p : B.Sig × Value} (hp : L[i]? = some p) (vs : List Value) (s : B.Sig) (tv : Value) (hf : f + vs.length ≤ 19)
    (hs : ∀ j, j < 19 → (sigC s tv)[j]? = if f ≤ j ∧ j < f + vs.length then vs[j - f]? else (sigC p.1 p.2)[j]?) (hto : ToAt w tv s.dest) : OwnSg (w.setCells g (i * 19 + f) vs) base (some ⟨g, 0, none⟩) n cap (L.set i (s, tv)) := by
 have hi := (List.getElem?_eq_some_iff.1 hp).1
 have hl := h.len
 have hgr := grownBy_setCells g vs (i * 19 + f) w
 have hkeep : ∀ (b : Nat) (C : Array Value), w.heap[b]? = some (.cells C 9 (0, 0)) → (w.setCells g (i * 19 + f) vs).heap[b]? = w.heap[b]? := fun b C hC => by
  refine hgr.block b (lt_of_block hC) (fun e => ?_)
  obtain rfl := Option.some.inj e
  rcases h.form with ⟨e, _⟩ | ⟨g', e, _, _, C', hC'⟩
  ·cases e
  ·injection e with e
   injection e with e _ _
   subst e
   rw [hC'] at hC
   injection hC with hC
   injection hC with _ hT _
   exact absurd hT (by decide)
 refine ⟨by rw [List.length_set]; exact hl, ?_, fun q hq => ?_⟩
 ·obtain ⟨xs, h1, h2⟩ := h.own
  rcases h1.2 with ⟨e, _⟩ | ⟨g', c, cur, e, hb, hh, hnc, hc, hsz, htk⟩
  ·cases e
  ·injection e with e1 _ e3
   injection e1 with e1
   injection e1 with e1 _ _
   subst e1 e3
   obtain ⟨cur', hcur, hcs, hget⟩ : ∃ cur', (w.setCells g (i * 19 + f) vs).heap[g]? = some (.cells cur' 40 (0, 0)) ∧ cur'.size = cur.size ∧ ∀ j, j < cur.size → cur'[j]? = if i * 19 + f ≤ j ∧ j < i * 19 + f + vs.length then vs[j - (i * 19 + f)]? else cur[j]? := by
    have hca : CellsAt w g 40 cur.size (fun j => cur.getD j undef) := ⟨cur, hh, rfl, fun j hj => getRC rfl j hj⟩
    obtain ⟨C, k1, k2, k3⟩ := CellsAt.setCells vs (i * 19 + f) hca
    refine ⟨C, k1, k2, fun j hj => ?_⟩
    rw [k3 j hj]
    show some (if i * 19 + f ≤ j ∧ j < i * 19 + f + vs.length then vs.getD (j - (i * 19 + f)) undef else cur.getD j undef) = _
    by_cases hin : i * 19 + f ≤ j ∧ j < i * 19 + f + vs.length
    ·rw [if_pos hin, if_pos hin, List.getD_eq_getElem?_getD, List.getElem?_eq_getElem (by omega)]
     rfl
    ·rw [if_neg hin, if_neg hin]
     exact (getRC rfl j hj).symm
   refine ⟨cur'.toList.take (n * 19), ⟨by simp [hcs]; omega, .inr ⟨g, cap, cur', rfl, hb, hcur, hnc, hc, by rw [hcs]; exact hsz, rfl⟩⟩, fun k q hq j hj => ?_⟩
   have hk : k < n := by have := (List.getElem?_eq_some_iff.1 hq).1; rw [List.length_set] at this; omega
   have hkj : k * 19 + j < n * 19 := by omega
   rw [List.getElem?_take, if_pos hkj, Array.getElem?_toList, hget _ (by rw [hsz]; exact Nat.lt_of_lt_of_le hkj (Nat.mul_le_mul_right _ hnc))]
   have hold : ∀ q', L[k]? = some q' → cur[k * 19 + j]? = (sigC q'.1 q'.2)[j]? := fun q' hq' => by
    rw [← h2 k q' hq' j hj, ← htk, List.getElem?_take, if_pos hkj, Array.getElem?_toList]
   by_cases hki : i = k
   ·subst hki
    rw [List.getElem?_set, if_pos rfl, if_pos hi] at hq
    obtain rfl := Option.some.inj hq
    rw [hs j hj]
    by_cases hin : f ≤ j ∧ j < f + vs.length
    ·rw [if_pos (by omega), if_pos hin]
     congr 1
     omega
    ·rw [if_neg (by omega), if_neg hin, hold p hp]
   ·rw [List.getElem?_set, if_neg hki] at hq
    rw [if_neg (by omega), hold q hq]
 ·rcases List.mem_or_eq_of_mem_set hq with hq | rfl
  ·exact (h.to_ q hq).keep hkeep
  ·exact hto.keep hkeep

theorem OwnSg.put {w : World} {base n cap g : Nat} {L : List (B.Sig × Value)} (h : OwnSg w base (some ⟨g, 0, none⟩) n cap L) {i f : Nat} {p : B.Sig × Value} (hp : L[i]? = some p) (v : Value) (s : B.Sig) (tv : Value) (hf : f < 19)
    (hs : ∀ j, j < 19 → (sigC s tv)[j]? = if f = j then some v else (sigC p.1 p.2)[j]?) (hto : ToAt w tv s.dest) : OwnSg (w.setCell ⟨g, i * 19 + f, none⟩ v) base (some ⟨g, 0, none⟩) n cap (L.set i (s, tv)) := by
 have := h.puts (f := f) hp [v] s tv (by simp; omega) (fun j hj => by
  rw [hs j hj]
  by_cases e : f = j
  ·subst e
   rw [if_pos rfl, if_pos (by simp)]
   simp
  ·rw [if_neg e, if_neg (by simp; omega)]) hto
 exact this

/-- one signal more -/
theorem OwnSg.snoc {w w1 w' : World} {base n cap cap' : Nat} {ao ao' : Option Addr} {L : List (B.Sig × Value)} (h : OwnSg w base ao n cap L) (hw1 : Below w.heap.size w w1) (s : B.Sig) (tv : Value) (hto : ToAt w1 tv s.dest) {xs : List Value} (hx : ∀ i p, L[i]? = some p → ∀ j, j < 19 → xs[i * 19 + j]? = (sigC p.1 p.2)[j]?) (hxl : xs.length = n * 19)
    (hown : w'.ownsRow base 40 19 (.slice ao' (n + 1) cap') (n + 1) (xs ++ (sigC s tv).toList)) (hg : w1.grownBy w' (Value.ownBlock (.slice ao n cap))) : OwnSg w' base ao' (n + 1) cap' (L ++ [(s, tv)]) := by
 have hkeep : ∀ (b : Nat) (C : Array Value), w1.heap[b]? = some (.cells C 9 (0, 0)) → w'.heap[b]? = w1.heap[b]? := fun b C hC => by
  refine hg.block b (lt_of_block hC) (fun e => ?_)
  rcases h.form with ⟨e0, _⟩ | ⟨g', e0, _, hlt, C', hC'⟩
  ·rw [e0] at e; cases e
  ·rw [e0] at e
   obtain rfl : g' = b := Option.some.inj (show some g' = some b from e.symm)
   rw [hw1.block _ hlt, hC'] at hC
   injection hC with hC
   injection hC with _ hT _
   exact absurd hT (by decide)
 refine ⟨by simp [h.len], ⟨_, hown, fun i p hp j hj => ?_⟩, fun q hq => ?_⟩
 ·by_cases hi : i < n
  ·rw [List.getElem?_append_left (by rw [← h.len]; exact hi)] at hp
   rw [List.getElem?_append_left (by omega), hx i p hp j hj]
  ·have hlen := h.len
   have hil := (List.getElem?_eq_some_iff.1 hp).1
   rw [List.length_append, List.length_singleton] at hil
   obtain rfl : i = n := by omega
   rw [List.getElem?_append_right (by omega)] at hp
   have e : i - L.length = 0 := by omega
   rw [e] at hp
   obtain rfl := Option.some.inj hp
   rw [List.getElem?_append_right (by omega), hxl, show i * 19 + j - i * 19 = j by omega, Array.getElem?_toList]
 ·rcases List.mem_append.1 hq with hq | hq
  ·exact ((h.to_ q hq).below hw1 (Nat.le_refl _)).keep hkeep
  ·obtain rfl := List.mem_singleton.1 hq
   exact hto.keep hkeep

end Code
end Go.Proofs.YtdpjbnjlognmeaaGreatDoor
