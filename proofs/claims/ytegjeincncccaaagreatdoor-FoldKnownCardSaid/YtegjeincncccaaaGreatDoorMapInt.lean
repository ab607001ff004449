/- A map from int whose entries are known one by one: what an insert makes of it, what a look-up finds. -/
import Derived.Test.YtegjeincncccaaaGreatDoorBase2
import Derived.Deep.MidRow
import Derived.ChangeMaps4
import Derived.MapKept
namespace Go.Proofs.YtegjeincncccaaaGreatDoor
open Go.RowKit

namespace Code

/-- block b is a map that holds these, in this order -/
def MapIs (w : World) (b : Nat) (l : List (Int × Value)) : Prop :=
 ∃ es clock, w.heap[b]? = some (.map es clock) ∧ es.toList.map (fun e => (e.key, e.val)) = l.map (fun p => (Value.int .i64 p.1, p.2))

theorem findNow_none (k : Int) : ∀ (es : List MapEntry) (l : List (Int × Value)) (i : Nat), es.map (fun e => (e.key, e.val)) = l.map (fun p => (Value.int .i64 p.1, p.2)) → (∀ p ∈ l, p.1 ≠ k) →
    Instr.findNow (.int .i64) (.int .i64 k) es i = some none := by
 intro es
 induction es with
 | nil => intro l i _ _; rfl
 | cons e es ih =>
  intro l i h hk
  cases l with
  | nil => simp at h
  | cons p l =>
   simp only [List.map_cons, List.cons.injEq, Prod.mk.injEq] at h
   obtain ⟨⟨h1, h2⟩, h3⟩ := h
   have hne : (k == p.1) = false := by
    have := hk p (by simp)
    simp; omega
   simp only [Instr.findNow, h1, Instr.sameNow, if_true, hne]
   exact ih l (i + 1) h3 (fun q hq => hk q (by simp [hq]))

theorem findNow_some (k : Int) (v : Value) : ∀ (es : List MapEntry) (l : List (Int × Value)) (i : Nat), es.map (fun e => (e.key, e.val)) = l.map (fun p => (Value.int .i64 p.1, p.2)) →
    l.find? (fun p => p.1 == k) = some (k, v) → ∃ j, Instr.findNow (.int .i64) (.int .i64 k) es i = some (some (j, v)) := by
 intro es
 induction es with
 | nil => intro l i h hf; cases l <;> simp at h hf
 | cons e es ih =>
  intro l i h hf
  cases l with
  | nil => simp at h
  | cons p l =>
   simp only [List.map_cons, List.cons.injEq, Prod.mk.injEq] at h
   obtain ⟨⟨h1, h2⟩, h3⟩ := h
   by_cases hp : p.1 = k
   ·rw [List.find?_cons_of_pos (by simp [hp])] at hf
    simp only [Option.some.injEq] at hf
    subst hf
    refine ⟨i, ?_⟩
    simp [Instr.findNow, h1, Instr.sameNow, h2]
   ·rw [List.find?_cons_of_neg (by simp [hp])] at hf
    have hne : (k == p.1) = false := by simp; omega
    simp only [Instr.findNow, h1, Instr.sameNow, if_true, hne]
    exact ih l (i + 1) h3 hf

theorem run_insert {w : World} {b : Nat} {l : List (Int × Value)} (h : MapIs w b l) (k : Int) (v : Value) (hk : ∀ p ∈ l, p.1 ≠ k) :
    ∃ w', (Instr.mapUpdate 258 (.map (some b)) (.int .i64 k) v).run Tryz.prog w = .ok () w' ∧ MapIs w' b (l ++ [(k, v)]) ∧ w.grownBy w' (some b) := by
 obtain ⟨es, clock, hb, he⟩ := h
 have hd : Tryz.prog.underlying 3 = some (.int .i64) := Tryz.underlying3
 have hf := findNow_none k es.toList l 0 he hk
 refine ⟨ChangeMaps.setBlock w b (.map (es.push { key := .int .i64 k, val := v, born := clock }) (clock + 1)), ?_, ⟨_, _, (MapKept.heap_set hb).1, ?_⟩, ⟨rfl, rfl, rfl, by simp [ChangeMaps.setBlock], fun i _ hi => (MapKept.heap_set hb).2 i (fun e => hi (by rw [e]))⟩⟩
 ·simp [Instr.mapUpdate, run_underlying Tryz.underlying258, MapKept.run_getObj_map hb, MapKept.run_checkKey hd (k := .int .i64 k) (by simp [MapKept.IsKey]), MapKept.run_findKey hd hf, MapKept.run_setObj_map _ hb, Result.andThen, ChangeMaps.setBlock]
 ·simp [he]

theorem run_lookup {w : World} {b : Nat} {l : List (Int × Value)} (h : MapIs w b l) (k : Int) (v : Value) (hk : l.find? (fun p => p.1 == k) = some (k, v)) :
    (Instr.lookup 258 (.map (some b)) (.int .i64 k) true).run Tryz.prog w = .ok (.tuple #[v, .bool true]) w := by
 obtain ⟨es, clock, hb, he⟩ := h
 have hd : Tryz.prog.underlying 3 = some (.int .i64) := Tryz.underlying3
 obtain ⟨j, hf⟩ := findNow_some k v es.toList l 0 he hk
 simp [Instr.lookup, run_underlying Tryz.underlying258, MapKept.run_getObj_map hb, MapKept.run_checkKey hd (k := .int .i64 k) (by simp [MapKept.IsKey]), MapKept.run_findKey hd hf, Result.andThen]

theorem run_missing {w : World} {b : Nat} {l : List (Int × Value)} (h : MapIs w b l) (k : Int) (hk : ∀ p ∈ l, p.1 ≠ k) :
    ∃ v, (Instr.lookup 258 (.map (some b)) (.int .i64 k) true).run Tryz.prog w = .ok (.tuple #[v, .bool false]) w := by
 obtain ⟨es, clock, hb, he⟩ := h
 have hd : Tryz.prog.underlying 3 = some (.int .i64) := Tryz.underlying3
 have hf := findNow_none k es.toList l 0 he hk
 refine ⟨.nilFunc, ?_⟩
 simp [Instr.lookup, run_underlying Tryz.underlying258, MapKept.run_getObj_map hb, MapKept.run_checkKey hd (k := .int .i64 k) (by simp [MapKept.IsKey]), MapKept.run_findKey hd hf, Result.andThen]

def overlay (C : Array Value) : Nat → List Value → Array Value
 | _, [] => C
 | o, v :: r => overlay (C.setIfInBounds o v) (o + 1) r

theorem setCells_new (w : World) (t : TypeId) : ∀ (vs : List Value) (o : Nat) (C : Array Value), (w.alloc (.cells C t)).setCells w.heap.size o vs = w.alloc (.cells (overlay C o vs) t) := by
 intro vs
 induction vs with
 | nil => intro o C; rfl
 | cons v r ih =>
  intro o C
  show ((w.alloc (.cells C t)).setCell ⟨w.heap.size, o, none⟩ v).setCells w.heap.size (o + 1) r = _
  rw [World.setCell_alloc_at _ _ _ _ _ rfl, ih]
  rfl

theorem overlay_all : ∀ (vs : List Value) (o : Nat) (C : Array Value), o + vs.length = C.size → (overlay C o vs).toList = C.toList.take o ++ vs := by
 intro vs
 induction vs with
 | nil =>
  intro o C h
  simp only [overlay, List.append_nil]
  rw [List.take_of_length_le]
  simp at h
  simp [h]
 | cons v r ih =>
  intro o C h
  simp only [List.length_cons] at h
  show (overlay (C.setIfInBounds o v) (o + 1) r).toList = _
  rw [ih (o + 1) _ (by simp; omega)]
  have : (C.setIfInBounds o v).toList.take (o + 1) = C.toList.take o ++ [v] := by
   rw [Array.toList_setIfInBounds, List.take_add_one]
   have h1 : o < C.toList.length := by simp; omega
   rw [List.take_set_of_le (Nat.le_refl o), List.getElem?_set_self h1]
   rfl
  rw [this]
  simp

theorem overlay_self (C T : Array Value) (h : C.size = T.size) : overlay C 0 T.toList = T := by
 have := overlay_all T.toList 0 C (by simp [h])
 simp at this
 exact this

/-- a whole new variable is written -/
theorem step_store_new {ops : Array Oper} {rest : List Oper} {o : Oper} {a : Act} {w : World} {Q : Exit → Act → World → Prop} (hgd : o.guard = none) (ty : TypeId) (x y : Operand) (ho : o.op = .store ty x y)
    (C T : Array Value) (hx : a.eval x = .pointer (some ⟨w.heap.size, 0, none⟩)) (hy : a.eval y = .agg T) (hC : C.size = T.size) (hi : (Tryz.prog.info? ty).map (·.size) = some T.size) (h1 : T.all (·.oneCell') = true)
    (h : wpList Tryz.prog ops Q rest (a.put o.dst undef) (w.alloc (.cells T ty))) : wpList Tryz.prog ops Q (o :: rest) a (w.alloc (.cells C ty)) := by
 refine wpList_store_mid hgd ty x y ho w.heap.size 0 T hx hy ?_ hi h1 ?_
 ·intro j hj
  have hb := heap_alloc_new w (.cells C ty)
  constructor
  ·rw [cell_of_row _ _ _ _ _ _ hb]
   simp; omega
  ·exact frozen_blk hb
 ·rw [setCells_new, overlay_self C T hC]
  exact h

end Code
end Go.Proofs.YtegjeincncccaaaGreatDoor
