/- Small lemmas: an element more behind a slice of whatever type; blocks behind a store. -/
import Derived.Test.YtegjeincncccaaaGreatDoorBase
import Derived.Deep.AppendLies
namespace Go.Proofs.YtegjeincncccaaaGreatDoor
open Go.RowKit

/-- one element more behind a slice of the call's own, of whatever type -/
theorem app_gen {T E : TypeId} {z : Value} {size bytes : Nat} (hu : Tryz.prog.underlying T = some (.slice E)) (hinfo : (Tryz.prog.info? E).map (fun i => (i.zero, i.size, i.bytes)) = some (some z, size, bytes)) (hzs : z.cells.size = size) (hsz : 0 < size)
    {ops : Array Oper} {rest : List Oper} {o : Oper} {a : Act} {Q : Exit → Act → World → Prop} {w : World} (hgd : o.guard = none) (s x : Operand)
    (ho : o.op = .call { callee := .builtin .append, args := #[s, x], argTypes := #[T, T] })
    (base : Nat) {ao : Option Addr} {n cap : Nat} {xs : List Value} {C : Array Value} (hs : a.eval s = .slice ao n cap) (hown : w.ownsRow base E size (.slice ao n cap) n xs)
    (hx : a.eval x = .slice (some ⟨w.heap.size, 0, none⟩) 1 1) (hC : C.size = size) (h1 : ∀ u ∈ C.toList, u.oneCell' = true) (hmax : n + 1 ≤ 9223372036854775807) (hbytes : (n + 1) * bytes ≤ 140737488355328) (hbase : base ≤ w.heap.size)
    (h : ∀ ao' cap' w', w'.ownsRow base E size (.slice ao' (n + 1) cap') (n + 1) (xs ++ C.toList) → (w.alloc (.cells C E)).grownBy w' (Value.ownBlock (.slice ao n cap)) → Below base w w' → w.heap.size ≤ w'.heap.size → wpList Tryz.prog ops Q rest (a.put o.dst (.slice ao' (n + 1) cap')) w') :
    wpList Tryz.prog ops Q (o :: rest) a (w.alloc (.cells C E)) := by
 obtain ⟨i, hi, hz0, hz1, hz2⟩ := info_parts hinfo
 have hlt := hown.lt
 refine wpList_append_own _ hgd s x T ho base E i _ size bytes hu hi hz0 hz1 hz2 hzs hsz _ n xs hs (hown.alloc _) ⟨w.heap.size, 0, none⟩ 1 1 C.toList hx (by simp [hC]) ?_ h1 (by simp only [maxLen]; omega) hbytes (by simp; omega) ?_
 ·intro j u hu
  have e : (⟨w.heap.size, 0, none⟩ : Addr).add j = ⟨w.heap.size, j, none⟩ := by unfold Addr.add; split <;> simp_all
  rw [e, cell_of_row _ _ _ _ _ _ (heap_alloc_new w _)]
  simpa using hu
 ·intro v' w' hown' hg _
  have hb : Below base w w' := ((Below.refl base w).alloc hbase _).grown hg (by simp; omega) (fun k hk => (hlt k hk).1)
  have hsz : w.heap.size ≤ w'.heap.size := hb.size
  rcases hown'.2 with ⟨_, hn⟩ | ⟨g, cap', cur, rfl, rest'⟩
  ·omega
  ·exact h _ _ _ hown' hg hb hsz

/-- the same at a step of a region that draws its order, at whatever world in which the element lies in a block of its own -/
theorem step_app {T E : TypeId} {z : Value} {size bytes : Nat} (hu : Tryz.prog.underlying T = some (.slice E)) (hinfo : (Tryz.prog.info? E).map (fun i => (i.zero, i.size, i.bytes)) = some (some z, size, bytes)) (hzs : z.cells.size = size) (hsz : 0 < size)
    {ops : Array Oper} {o : Oper} {a : Act} {K : Act → World → Prop} {Q : Exit → Act → World → Prop} {X : Prop} {W : World} (hgd : o.guard = none) (s x : Operand)
    (ho : o.op = .call { callee := .builtin .append, args := #[s, x], argTypes := #[T, T] })
    (base : Nat) {ao : Option Addr} {n cap B : Nat} {xs news : List Value} {C : Array Value} (hs : a.eval s = .slice ao n cap) (hown : W.ownsRow base E size (.slice ao n cap) n xs)
    (hx : a.eval x = .slice (some ⟨B, 0, none⟩) 1 1) (hB : W.heap[B]? = some (.cells C E (0, 0))) (hC : C.toList = news) (hl : news.length = size) (h1 : ∀ u ∈ news, u.oneCell' = true) (hmax : n + 1 ≤ 9223372036854775807) (hbytes : (n + 1) * bytes ≤ 140737488355328) (hbase : base ≤ W.heap.size)
    (h : ∀ ao' cap' w', w'.ownsRow base E size (.slice ao' (n + 1) cap') (n + 1) (xs ++ news) → W.grownBy w' (Value.ownBlock (.slice ao n cap)) → Below base W w' → W.heap.size ≤ w'.heap.size → K (a.put o.dst (.slice ao' (n + 1) cap')) w') :
    if Region.wanted o (yielded ops a.tmps) = true then Oper.wp Tryz.prog o a W K Q else X := by
 obtain ⟨i, hi, hz0, hz1, hz2⟩ := info_parts hinfo
 have hlt := hown.lt
 subst hC
 refine step_append_lies W hgd s x T ho base E i z size bytes hu hi hz0 hz1 hz2 hzs hsz _ n xs hs hown ⟨B, 0, none⟩ 1 1 C.toList hx (by simpa using hl) (World.news_of_block hB) h1 (by omega) (by simp only [maxLen]; omega) hbytes hbase W.heap.size rfl ?_
 intro g cap1 w1 hown1 hg hat hlt1
 have hb : Below base W w1 := (Below.refl base W).grown hg hbase (fun k hk => (hlt k hk).1)
 exact h _ _ _ hown1 hg hb hb.size

theorem blk_setCell {w : World} {b off : Nat} {cs : Array Value} {t : TypeId} {fr : Nat × Nat} (h : w.heap[b]? = some (.cells cs t fr)) (u : Value) : (w.setCell ⟨b, off, none⟩ u).heap[b]? = some (.cells (cs.setIfInBounds off u) t fr) := by
 have hlt := lt_of_block h
 have h' : w.heap[b] = .cells cs t fr := by simpa [Array.getElem?_eq_getElem hlt] using h
 show (w.heap.modify b _)[b]? = _
 rw [Array.getElem?_eq_getElem (by simpa using hlt), Array.getElem_modify_self, h']
 rfl

theorem blk_other {w : World} {a : Addr} {b : Nat} (u : Value) (h : b ≠ a.block) : (w.setCell a u).heap[b]? = w.heap[b]? := Below.heap_setCell _ _ _ _ h

theorem frozen_blk {w : World} {b off : Nat} {cs : Array Value} {t : TypeId} (h : w.heap[b]? = some (.cells cs t (0, 0))) : w.frozen? ⟨b, off, none⟩ = false := by simp [World.frozen?, h]

/-- the row that a slice owns is no block of another element type -/
theorem own_ne {w : World} {base E T size n : Nat} {v : Value} {xs : List Value} {b : Nat} {cs : Array Value} {fr : Nat × Nat} (h : w.ownsRow base E size v n xs) (hb : w.heap[b]? = some (.cells cs T fr)) (hne : E ≠ T) : v.ownBlock ≠ some b := by
 rcases h.2 with ⟨rfl, _⟩ | ⟨g, cap, cur, rfl, _, hg, _⟩
 ·simp [Value.ownBlock]
 ·intro e
  simp only [Value.ownBlock, Option.some.injEq] at e
  subst e
  rw [hg] at hb
  simp only [Option.some.injEq, Obj.cells.injEq] at hb
  exact hne hb.2.1

end Go.Proofs.YtegjeincncccaaaGreatDoor
