/- Package code: the table of operations is made; what it holds. -/
import Derived.Test.YtegjeincncccaaaGreatDoorCodeC
import Derived.Test.YtegjeincncccaaaGreatDoorMapInt
import Derived.Maps.Own
namespace Go.Proofs.YtegjeincncccaaaGreatDoor
open Go.RowKit

namespace Code

/-- a method of the table as a value -/
def meth (f : Nat) (T : Value) : Value := .func (.func f) #[T] #[]

/-- while the map is filled: the table's block, the map -/
structure Mk (N : Nat) (W w : World) (B b : Nat) (T : Array Value) (l : List (Int × Value)) : Prop where
 blk : w.heap[B]? = some (.cells T 314 (0, 0))
 map : MapIs w b l
 ne : B ≠ b
 lo : N ≤ b
 below : Below N W w

theorem Mk.insert {N : Nat} {W w : World} {B b : Nat} {T : Array Value} {l : List (Int × Value)} (h : Mk N W w B b T l) (k : Int) (v : Value) (hk : ∀ p ∈ l, p.1 ≠ k) (hN : N ≤ w.heap.size) :
    ∃ w', (Instr.mapUpdate 258 (.map (some b)) (.int .i64 k) v).run Tryz.prog w = .ok () w' ∧ Mk N W w' B b T (l ++ [(k, v)]) ∧ N ≤ w'.heap.size := by
 obtain ⟨w', hr, hm, hg⟩ := run_insert h.map k v hk
 have hlt := lt_of_block h.blk
 refine ⟨w', hr, ⟨(hg.block B hlt (fun e => h.ne (by simpa using e))).trans h.blk, hm, h.ne, h.lo, h.below.grown hg hN ?_⟩, Nat.le_trans hN hg.size⟩
 intro k hk
 simp at hk
 have := h.lo
 omega

theorem mk_start (w : World) (T : Array Value) : Mk w.heap.size w ((w.alloc (.cells T 314)).alloc (.map #[] 0)) w.heap.size (w.heap.size + 1) T [] := by
 refine ⟨?_, ⟨#[], 0, ?_, rfl⟩, by omega, by omega, ((Below.refl _ _).alloc (Nat.le_refl _) _).alloc (by simp) _⟩
 ·have := Below.heap_alloc (w.alloc (.cells T 314)) (.map #[] 0) w.heap.size (by simp)
  rw [this]
  exact heap_alloc_new w _
 ·have := heap_alloc_new (w.alloc (.cells T 314)) (.map #[] 0)
  simpa using this

/-- three operations: the table is loaded, a method is bound, the entry is laid -/
theorem step_put {ops : Array Oper} {rest : List Oper} {o1 o2 o3 : Oper} {a : Act} {w : World} {Q : Exit → Act → World → Prop} {N : Nat} {W : World} {B b : Nat} {T : Array Value} {l : List (Int × Value)}
    (h : Mk N W w B b T l) (hN : N ≤ w.heap.size) (hT : T.size = 20) (g1 : o1.guard = none) (g2 : o2.guard = none) (g3 : o3.guard = none) {i1 i2 : Nat} {f : Nat} {k : Int} {m x : Operand}
    (e1 : o1.op = .load 314 x) (d1 : o1.dst = some i1) (hx : a.eval x = .pointer (some ⟨B, 0, none⟩))
    (e2 : o2.op = .makeFunc (.func f) #[.tmp i1] #[]) (d2 : o2.dst = some i2)
    (e3 : o3.op = .insert 258 m (.const (.int .i64 k)) (.tmp i2)) (d3 : o3.dst = none)
    (h1 : (a.put (some i1) (.agg T)).eval (.tmp i1) = .agg T) (h2 : ∀ v, ((a.put (some i1) (.agg T)).put (some i2) v).eval (.tmp i2) = v) (h3 : ∀ v, ((a.put (some i1) (.agg T)).put (some i2) v).eval m = .map (some b))
    (hk : ∀ p ∈ l, p.1 ≠ k)
    (hK : ∀ w', Mk N W w' B b T (l ++ [(k, meth f (.agg T))]) → N ≤ w'.heap.size → wpList Tryz.prog ops Q rest ((a.put (some i1) (.agg T)).put (some i2) (meth f (.agg T))) w') :
    wpList Tryz.prog ops Q (o1 :: o2 :: o3 :: rest) a w := by
 have hr : w.rangeAt B 0 T.toList := by
  have := World.rangeAt_of_block h.blk 0 T.size
  simpa using this
 refine wpList_load_mid g1 314 x e1 B 0 hx T.toList _ hr Tryz.underlying314 rfl (by rw [Array.length_toList, hT]; kernel_rfl) ?_
 rw [d1]
 refine wpList_plain g2 fun K' hK' => ?_
 unfold Oper.wp
 simp [execOp, e2, Instr.makeFunc, h1]
 refine hK' _ _ ?_
 rw [d2]
 refine wpList_plain g3 fun K2 hK2 => ?_
 obtain ⟨w', hrun, hm', hN'⟩ := h.insert k (meth f (.agg T)) hk hN
 unfold Oper.wp
 have e4 := h2 (meth f (.agg T))
 have e5 := h3 (meth f (.agg T))
 have e6 : ∀ c : Act, c.eval (.const (.int .i64 k)) = .int .i64 k := fun _ => rfl
 simp only [meth] at e4 e5 hrun
 simp [execOp, e3, e4, e5, e6, hrun, Result.andThen]
 refine hK2 _ _ ?_
 rw [d3]
 exact hK w' hm' hN'

def kOf (f : Nat) : Nat := if f = 224 then 0 else if f = 225 then 1 else 2

theorem small_fn (f : Nat) (lo hi : Int) (s : ByteArray) (w : World) (hf : f = 224 ∨ f = 225 ∨ f = 269) (hs : s.size ≤ 1) :
    Calls Tryz.prog 223 #[.func (.func f) #[] #[], .int .i64 lo, .int .i64 hi, .string s] w fun e w' => ∃ v0 v1 v2 v3 v4, e = .returned (.agg #[v0, v1, v2, v3, v4]) ∧ FieldAt w' (.small (kOf f) lo hi) v0 v1 v2 v3 v4 ∧ Below w.heap.size w w' := by
 rcases hf with rfl | rfl | rfl
 ·exact small_any 0 lo hi s w (by omega) hs
 ·exact small_any 1 lo hi s w (by omega) hs
 ·exact small_any 2 lo hi s w (by omega) hs

theorem FieldAt.one {w : World} {fk : FK} {v0 v1 v2 v3 v4 : Value} (h : FieldAt w fk v0 v1 v2 v3 v4) : v0.oneCell' = true ∧ v1.oneCell' = true ∧ v2.oneCell' = true ∧ v3.oneCell' = true ∧ v4.oneCell' = true := by
 cases fk with
 | small k lo hi => obtain ⟨_, _, _, _, _, _, rfl, rfl, rfl, rfl, rfl⟩ := h; exact ⟨rfl, rfl, rfl, rfl, rfl⟩
 | number => obtain ⟨rfl, rfl, rfl, rfl, rfl⟩ := h; exact ⟨rfl, rfl, rfl, rfl, rfl⟩
 | sign => obtain ⟨rfl, rfl, rfl, rfl, rfl⟩ := h; exact ⟨rfl, rfl, rfl, rfl, rfl⟩
 | skip => obtain ⟨_, _, _, _, _, rfl, rfl, rfl, rfl, rfl⟩ := h; exact ⟨rfl, rfl, rfl, rfl, rfl⟩
 | bytes => obtain ⟨_, _, _, _, _, rfl, rfl, rfl, rfl, rfl⟩ := h; exact ⟨rfl, rfl, rfl, rfl, rfl⟩

/-- a goal at which the walk stops -/
def Hold (p : Prop) : Prop := p
theorem hold {p : Prop} (h : Hold p) : p := h

/-- what the map holds -/
def tabL (T : Value) : List (Int × Value) := [(0, meth 227 T), (1, meth 228 T), (2, meth 229 T), (3, meth 229 T), (4, meth 229 T), (5, meth 229 T), (6, meth 230 T), (7, meth 230 T), (8, meth 228 T), (9, meth 231 T), (10, meth 231 T), (11, meth 231 T), (12, meth 231 T), (13, meth 232 T), (14, meth 233 T), (15, meth 234 T), (16, meth 234 T), (17, meth 235 T), (18, meth 236 T), (19, meth 237 T)]

/-- the table: four fields -/
def TableAt (w : World) (T : Value) : Prop :=
 ∃ v0 v1 v2 v3 v4 v5 v6 v7 v8 v9 v10 v11 v12 v13 v14 v15 v16 v17 v18 v19, T = .agg #[v0, v1, v2, v3, v4, v5, v6, v7, v8, v9, v10, v11, v12, v13, v14, v15, v16, v17, v18, v19] ∧
  FieldAt w (.small 0 0 15) v0 v1 v2 v3 v4 ∧ FieldAt w (.small 1 0 15) v5 v6 v7 v8 v9 ∧ FieldAt w (.small 1 0 63) v10 v11 v12 v13 v14 ∧ FieldAt w .number v15 v16 v17 v18 v19

set_option maxRecDepth 100000 in
set_option maxHeartbeats 1600000 in
theorem made_any (w : World) : Calls Tryz.prog 185 #[] w fun e w' => ∃ T b, e = .returned (.map (some b)) ∧ w.heap.size ≤ b ∧ MapIs w' b (tabL T) ∧ TableAt w' T ∧ Below w.heap.size w w' := by
 have hmm := @run_makeMap Tryz.prog
 have hinfo : (Tryz.prog.info? 314).map (·.size) = some 20 := by kernel_rfl
 go_enter Tryz.func185, Tryz.ntmps185
 go_wp2_with (first
  | (go_at_call 223; guard_hyp hF2; refine (small_fn _ _ _ _ _ (by decide) (by decide)).mono ?_; rintro e w3 ⟨v10, v11, v12, v13, v14, rfl, hF3, hb3⟩)
  | (go_at_call 223; guard_hyp hF1; refine (small_fn _ _ _ _ _ (by decide) (by decide)).mono ?_; rintro e w2 ⟨v5, v6, v7, v8, v9, rfl, hF2, hb2⟩)
  | (go_at_call 223; refine (small_fn _ _ _ _ _ (by decide) (by decide)).mono ?_; rintro e w1 ⟨v0, v1, v2, v3, v4, rfl, hF1, hb1⟩)
  | (go_at_call 226; refine (number_any _).mono ?_; rintro e w4 ⟨v15, v16, v17, v18, v19, rfl, hF4, hb4⟩; have hmk : Mk w4.heap.size w4 ((w4.alloc (.cells #[v0, v1, v2, v3, v4, v5, v6, v7, v8, v9, v10, v11, v12, v13, v14, v15, v16, v17, v18, v19] 314)).alloc (.map #[] 0)) w4.heap.size (w4.heap.size + 1) #[v0, v1, v2, v3, v4, v5, v6, v7, v8, v9, v10, v11, v12, v13, v14, v15, v16, v17, v18, v19] [] := mk_start _ _; have hN : w4.heap.size ≤ ((w4.alloc (.cells #[v0, v1, v2, v3, v4, v5, v6, v7, v8, v9, v10, v11, v12, v13, v14, v15, v16, v17, v18, v19] 314)).alloc (.map #[] 0)).heap.size := (by simp; omega); refine hold ?_))
 unfold Hold
 go_simp
 iterate 7 go_step
 refine step_store_new (by rfl) 314 (.tmp 1) (.tmp 6) (by rfl) _ #[v0, v1, v2, v3, v4, v5, v6, v7, v8, v9, v10, v11, v12, v13, v14, v15, v16, v17, v18, v19] (by rfl) (by rfl) (by rfl) hinfo ?h1 ?_
 case h1 => simp [hF1.one, hF2.one, hF3.one, hF4.one]
 iterate 8 (first | go_step | go_upon | go_simp)
 iterate 20 (refine step_put hmk hN (by rfl) (by rfl) (by rfl) (by rfl) (by rfl) (by rfl) (by rfl) (by rfl) (by rfl) (by rfl) (by rfl) (by rfl) (fun _ => by rfl) (fun _ => by rfl) (by simp) ?_; clear hmk hN; intro w5 hmk hN; go_simp)
 go_wp2
 go_ret
 have hb := ((hb1.trans (hb2.mono hb1.size)).trans (hb3.mono (Nat.le_trans hb1.size hb2.size))).trans (hb4.mono (Nat.le_trans hb1.size (Nat.le_trans hb2.size hb3.size)))
 have hz4 := hb.size
 have l3 := hb4.size
 have l2 := hb3.size
 have l1 := hb2.size
 refine ⟨_, _, rfl, by omega, hmk.map, ⟨v0, v1, v2, v3, v4, v5, v6, v7, v8, v9, v10, v11, v12, v13, v14, v15, v16, v17, v18, v19, rfl, ?_, ?_, ?_, ?_⟩, hb.trans (hmk.below.mono hz4)⟩
 ·exact (((hF1.below hb2 (Nat.le_refl _)).below hb3 (Nat.le_refl _)).below hb4 (Nat.le_refl _)).below hmk.below (Nat.le_refl _)
 ·exact ((hF2.below hb3 (Nat.le_refl _)).below hb4 (Nat.le_refl _)).below hmk.below (Nat.le_refl _)
 ·exact (hF3.below hb4 (Nat.le_refl _)).below hmk.below (Nat.le_refl _)
 ·exact hF4.below hmk.below (Nat.le_refl _)

end Code
end Go.Proofs.YtegjeincncccaaaGreatDoor
