/- Package code: the last two methods of the table; what an operation's fields are. -/
import Derived.Test.YtegjeincncccaaaGreatDoorCodeE
import Derived.Deep.RegionLaw
import Derived.Deep.RegionHeld3
import Derived.Deep.DrawnRows
namespace Go.Proofs.YtegjeincncccaaaGreatDoor
open Go.RowKit

namespace Code

attribute [local go_sem ↓] Go.wp_at_zero Go.wp_at_succ

theorem Quint.below {N : Nat} {w w' : World} (hb : Below N w w') (hN : w.heap.size ≤ N) : ∀ {fks : List FK} {vs : List Value}, Quint w fks vs → Quint w' fks vs
 | [], _, _ => trivial
 | _ :: _, _ :: _ :: _ :: _ :: _ :: _, h => ⟨h.1.below hb hN, Quint.below hb hN h.2⟩

theorem Quint.snoc {w : World} {f : FK} {u0 u1 u2 u3 u4 : Value} (hf : FieldAt w f u0 u1 u2 u3 u4) : ∀ {fks : List FK} {vs : List Value}, vs.length = fks.length * 5 → Quint w fks vs → Quint w (fks ++ [f]) (vs ++ [u0, u1, u2, u3, u4])
 | [], [], _, _ => ⟨hf, trivial⟩
 | [], _ :: _, h, _ => by simp at h
 | _ :: r, _ :: _ :: _ :: _ :: _ :: l, h, q => ⟨q.1, Quint.snoc hf (by simp at h; omega) q.2⟩

theorem fieldsAt_own {w : World} {base n cap : Nat} {ao : Option Addr} {vs : List Value} {fks : List FK} (h : w.ownsRow base 269 5 (.slice ao n cap) n vs) (hn : n = fks.length) (hq : Quint w fks vs) : FieldsAt w ao n fks := by
 rcases h.2 with ⟨hv, h0⟩ | ⟨g, cap', cur, hv, hg, hh, _⟩
 ·refine ⟨hn, fun i fk hi => ?_⟩
  have := (List.getElem?_eq_some_iff.1 hi).1
  omega
 ·cases hv
  have hlt : g < w.heap.size := (Array.getElem?_eq_some_iff.1 hh).1
  refine ⟨hn, fun i fk hi => ?_⟩
  obtain ⟨v0, v1, v2, v3, v4, h0, h1, h2, h3, h4, hf⟩ := hq.get i fk hi
  have hc : ∀ j u, vs[j]? = some u → w.cell? ⟨g, j, none⟩ = some u := by
   intro j u hu
   have := h.cells (g := g) rfl j u hu
   rw [Addr.add] at this
   split at this
   ·rename_i h0; rw [h0]; exact this
   ·simpa using this
  exact ⟨g, v0, v1, v2, v3, v4, rfl, hlt, hc _ _ h0, hc _ _ h1, hc _ _ h2, hc _ _ h3, hc _ _ h4, hf⟩

theorem own_top {w : World} {base g n : Nat} {vs : List Value} (hl : vs.length = n * 5) (hn : n ≤ 100) (hb : base ≤ w.heap.size) (hg : g = w.heap.size) :
    (w.alloc (.cells vs.toArray 269)).ownsRow base 269 5 (.slice (some ⟨g, 0, none⟩) n n) n vs := by
 subst hg
 exact ⟨hl, .inr ⟨_, n, _, rfl, hb, heap_alloc_new w _, Nat.le_refl _, by simp only [maxLen]; omega, by simp [hl], by rw [List.take_of_length_le (by simp [hl])]⟩⟩

set_option maxRecDepth 100000 in
set_option maxHeartbeats 1600000 in
theorem moveM_own (T : Value) (w : World) (hT : TableAt w T) : Calls Tryz.prog 231 #[T] w fun e w' => ∃ ao vs, e = .returned (.slice ao 3 3) ∧ w'.ownsRow w.heap.size 269 5 (.slice ao 3 3) 3 vs ∧ Quint w' [reg, .small 1 0 7, .bytes] vs ∧ Below w.heap.size w w' := by
 obtain ⟨v0, v1, v2, v3, v4, v5, v6, v7, v8, v9, v10, v11, v12, v13, v14, v15, v16, v17, v18, v19, rfl, hF1, hF2, hF3, hF4⟩ := hT
 have o1 := hF1.one
 have o2 := hF2.one
 have o3 := hF3.one
 have o4 := hF4.one
 go_enter Tryz.func231, Tryz.ntmps231
 go_wp2_with fail
 go_region_with (first | (go_at_call 223; refine (small_fn _ _ _ _ _ (by decide) (by decide)).mono ?_; rintro e w1 ⟨u0, u1, u2, u3, u4, rfl, hG, hb1⟩; have ou := hG.one; have hc := box_cell hb1 (by simp); have hs1 := hb1.size; have hs0 : w.heap.size < w1.heap.size := Nat.lt_of_lt_of_le (by simp) hs1; have hl := below_into hb1 (by simp); have hs := hl.size) | (go_at_call 270; refine (bytes_any _).mono ?_; rintro e w2 ⟨u5, u6, u7, u8, u9, rfl, hG2, hb2⟩; have ou2 := hG2.one; have hc2 := fun j => (hb2.cell (p := ⟨w.heap.size, j, none⟩) hs0).trans (hc j); have hs2 := hb2.size; have hl2 := hl.trans (hb2.mono hs)))
 all_goals have hs3 := hl2.size
 all_goals go_wp2
 all_goals go_ret
 all_goals exact ⟨_, _, rfl, own_top rfl (by omega) hs3 rfl, ⟨((hF1.into hb1 (Nat.le_refl _)).below hb2 (Nat.le_refl _)).alloc _, (hG.below hb2 (Nat.le_refl _)).alloc _, hG2.alloc _, trivial⟩, hl2.alloc (by omega) _⟩

set_option maxRecDepth 100000 in
set_option maxHeartbeats 1600000 in
theorem skipM_any (T : Value) (w : World) (hT : TableAt w T) : Calls Tryz.prog 236 #[T] w fun e w' => ∃ ao cap, e = .returned (.slice ao 1 cap) ∧ FieldsAt w' ao 1 [.skip] ∧ Below w.heap.size w w' := by
 obtain ⟨v0, v1, v2, v3, v4, v5, v6, v7, v8, v9, v10, v11, v12, v13, v14, v15, v16, v17, v18, v19, rfl, hF1, hF2, hF3, hF4⟩ := hT
 have o1 := hF1.one
 have o2 := hF2.one
 have o3 := hF3.one
 have o4 := hF4.one
 clear hF1 hF2 hF3 hF4
 go_enter Tryz.func236, Tryz.ntmps236
 go_wp2_with (go_at_call 272; refine (skip_any _).mono ?_; rintro e w1 ⟨u0, u1, u2, u3, u4, rfl, hG, hb1⟩; have ou := hG.one; have hs1 := hb1.size)
 go_ret
 refine ⟨_, _, rfl, fields_top (by exact ⟨hG.alloc _, trivial⟩) rfl rfl, ?_⟩
 simp at hs1
 exact (((Below.refl _ _).alloc (Nat.le_refl _) _).trans (hb1.mono (by simp))).alloc (by omega) _

theorem Caps.grown {w w2 : World} {own : Option Nat} {k : Nat} {lo hi : Int} {b4 b5 b6 b7 : Nat} (h : Caps w k lo hi b4 b5 b6 b7) (hg : w.grownBy w2 own) (hne : ∀ g, own = some g → ∃ c : Array Value, c.size = 3 ∧ w.cell? ⟨g, 0, none⟩ = some (.func (.func 251) #[] c)) : Caps w2 k lo hi b4 b5 b6 b7 := by
 obtain ⟨s, hs, h7⟩ := h.c7
 have n4 : some b4 ≠ own := by
  intro e
  obtain ⟨c, hc, hx⟩ := hne b4 e.symm
  have := h.c4
  rw [hx] at this
  simp [fn0] at this
  rw [this.2] at hc
  simp at hc
 have n5 : some b5 ≠ own := by
  intro e
  obtain ⟨c, hc, hx⟩ := hne b5 e.symm
  have := h.c5
  rw [hx] at this
  simp at this
 have n6 : some b6 ≠ own := by
  intro e
  obtain ⟨c, hc, hx⟩ := hne b6 e.symm
  have := h.c6
  rw [hx] at this
  simp at this
 have n7 : some b7 ≠ own := by
  intro e
  obtain ⟨c, hc, hx⟩ := hne b7 e.symm
  rw [hx] at h7
  simp at h7
 have hsz := hg.size
 exact ⟨(hg.cell_far ⟨b4, 0, none⟩ h.l4 n4).trans h.c4, (hg.cell_far ⟨b5, 0, none⟩ h.l5 n5).trans h.c5, (hg.cell_far ⟨b6, 0, none⟩ h.l6 n6).trans h.c6, ⟨s, hs, (hg.cell_far ⟨b7, 0, none⟩ h.l7 n7).trans h7⟩,
  Nat.lt_of_lt_of_le h.l4 hsz, Nat.lt_of_lt_of_le h.l5 hsz, Nat.lt_of_lt_of_le h.l6 hsz, Nat.lt_of_lt_of_le h.l7 hsz⟩

theorem FieldAt.grown {w w2 : World} {own : Option Nat} {fk : FK} {v0 v1 v2 v3 v4 : Value} (h : FieldAt w fk v0 v1 v2 v3 v4) (hg : w.grownBy w2 own) (hne : ∀ g, own = some g → ∃ c : Array Value, c.size = 3 ∧ w.cell? ⟨g, 0, none⟩ = some (.func (.func 251) #[] c)) : FieldAt w2 fk v0 v1 v2 v3 v4 := by
 cases fk with
 | small k lo hi => obtain ⟨hk, b4, b5, b6, b7, hc, h⟩ := h; exact ⟨hk, b4, b5, b6, b7, hc.grown hg hne, h⟩
 | number => exact h
 | sign => exact h
 | skip => obtain ⟨b4, b5, b6, b7, hc, h⟩ := h; exact ⟨b4, b5, b6, b7, hc.grown hg hne, h⟩
 | bytes => obtain ⟨b4, b5, b6, b7, hc, h⟩ := h; exact ⟨b4, b5, b6, b7, hc.grown hg hne, h⟩

theorem Quint.grown {w w2 : World} {own : Option Nat} (hg : w.grownBy w2 own) (hne : ∀ g, own = some g → ∃ c : Array Value, c.size = 3 ∧ w.cell? ⟨g, 0, none⟩ = some (.func (.func 251) #[] c)) : ∀ {fks : List FK} {vs : List Value}, Quint w fks vs → Quint w2 fks vs
 | [], _, _ => trivial
 | _ :: _, _ :: _ :: _ :: _ :: _ :: _, h => ⟨h.1.grown hg hne, Quint.grown hg hne h.2⟩

/-- the row of fields that begins with a small one -/
theorem own_first {w : World} {base n cap : Nat} {ao : Option Addr} {vs : List Value} {fks : List FK} {k : Nat} {lo hi : Int} (h : w.ownsRow base 269 5 (.slice ao n cap) n vs) (hq : Quint w (.small k lo hi :: fks) vs) :
    ∀ g, (Value.slice ao n cap).ownBlock = some g → ∃ c : Array Value, c.size = 3 ∧ w.cell? ⟨g, 0, none⟩ = some (.func (.func 251) #[] c) := by
 intro g hg
 obtain ⟨v0, v1, v2, v3, v4, h0, _, _, _, _, hf⟩ := hq.get 0 _ rfl
 obtain ⟨_, b4, b5, b6, b7, _, rfl, _⟩ := hf
 have := h.cells (g := g) hg 0 _ h0
 exact ⟨_, rfl, this⟩

theorem range_below {W w1 : World} {N b o : Nat} {cs : List Value} (h : W.rangeAt b o cs) (hb : Below N W w1) (hN : b < N) : w1.rangeAt b o cs := fun j v hv => (hb.cell (p := ⟨b, o + j, none⟩) hN).trans (h j v hv)
theorem two_new (w : World) (a b : Obj) : ((w.alloc a).alloc b).drew.heap[w.heap.size + 1]? = some b := by
 have h : ((w.alloc a).alloc b).heap[w.heap.size + 1]? = some b := by
  have := heap_alloc_new (w.alloc a) b
  simpa using this
 exact h
theorem below_two {w w1 : World} {N : Nat} {a b : Obj} (hb : Below N ((w.alloc a).alloc b).drew w1) (hN : w.heap.size ≤ N) : Below w.heap.size w w1 := ((((Below.refl _ _).alloc (Nat.le_refl _) a).alloc (by simp) b).drew).trans (hb.mono hN)

theorem infoField : (Tryz.prog.info? 269).map (fun i => (i.zero, i.size, i.bytes)) = some (some (.agg #[.nilFunc, .nilFunc, .nilFunc, .nilFunc, .nilFunc]), 5, 40) := by kernel_rfl

theorem TableAt.below {N : Nat} {w w' : World} {T : Value} (h : TableAt w T) (hb : Below N w w') (hN : w.heap.size ≤ N) : TableAt w' T := by
 obtain ⟨v0, v1, v2, v3, v4, v5, v6, v7, v8, v9, v10, v11, v12, v13, v14, v15, v16, v17, v18, v19, e, hF1, hF2, hF3, hF4⟩ := h
 exact ⟨v0, v1, v2, v3, v4, v5, v6, v7, v8, v9, v10, v11, v12, v13, v14, v15, v16, v17, v18, v19, e, hF1.below hb hN, hF2.below hb hN, hF3.below hb hN, hF4.below hb hN⟩

/-- the number's field is laid behind the three that move makes -/
theorem blend_app {ops : Array Oper} {o : Oper} {a : Act} {K : Act → World → Prop} {Q : Exit → Act → World → Prop} {X : Prop} {w W : World} {base B : Nat} {ao : Option Addr} {vs : List Value} {v15 v16 v17 v18 v19 : Value}
    (hgd : o.guard = none) (s x : Operand) (ho : o.op = .call { callee := .builtin .append, args := #[s, x], argTypes := #[260, 260] })
    (hs : a.eval s = .slice ao 3 3) (hx : a.eval x = .slice (some ⟨B, 0, none⟩) 1 1) (hown : W.ownsRow base 269 5 (.slice ao 3 3) 3 vs) (hq : Quint W [reg, .small 1 0 7, .bytes] vs)
    (hB : W.heap[B]? = some (.cells #[v15, v16, v17, v18, v19] 269 (0, 0))) (hF4 : FieldAt w .number v15 v16 v17 v18 v19) (hbase : base ≤ W.heap.size) (hw : w.heap.size ≤ base) (hL : Below w.heap.size w W)
    (h : ∀ ao' cap' w2, FieldsAt w2 ao' 4 [reg, .small 1 0 7, .bytes, .number] → Below w.heap.size w w2 → Below base W w2 → K (a.put o.dst (.slice ao' 4 cap')) w2) :
    if Region.wanted o (yielded ops a.tmps) = true then Oper.wp Tryz.prog o a W K Q else X := by
 have o4 := hF4.one
 refine step_app (W := W) Tryz.underlying260 infoField rfl (by omega) hgd s x ho base hs hown hx hB rfl rfl (by simp [o4]) (by omega) (by omega) hbase ?_
 intro ao' cap' w2 hown2 hg2 hb2 hs2
 have hQ := Quint.grown hg2 (own_first hown hq) hq
 have hlen : vs.length = [reg, FK.small 1 0 7, FK.bytes].length * 5 := by have := hown.1; simpa using this
 exact h ao' cap' w2 (fieldsAt_own hown2 rfl (Quint.snoc (show FieldAt w2 .number v15 v16 v17 v18 v19 from hF4) hlen hQ)) (hL.trans (hb2.mono hw)) hb2

end Code
end Go.Proofs.YtegjeincncccaaaGreatDoor
