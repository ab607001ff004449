/- What 'LowerTurned' turns: names, places, scales, ranges, takers. -/
import Derived.Test.YtdpjbnjlognmeaaGreatDoorLyI
import Derived.Test.YtdpjbnjlognmeaaGreatDoorLyK
namespace Go.Proofs.YtdpjbnjlognmeaaGreatDoor
open Go.RowKit

namespace B

theorem dest_le {m : Msg} (h : m.no.1 = 0) : ∀ s ∈ m.sigs, s.dest.length ≤ 64 := fun s hs => by
 obtain ⟨i, hi⟩ := List.getElem?_of_mem hs
 have h2 := (Msg.no_zero h).2.1 i (List.getElem?_eq_some_iff.1 hi).1
 unfold Msg.sigNo at h2
 rw [hi] at h2
 simp only at h2
 have hal : s.aloneNo m.size = 0 := by
  split at h2
  ·rename_i h5; exact absurd h2 h5
  ·rename_i h5; simpa using h5
 unfold Sig.aloneNo at hal
 repeat' (split at hal)
 all_goals first | omega | skip
 all_goals first | (rename_i hh; exact absurd hal hh) | skip
 unfold listNo at hal
 split at hal
 ·omega
 ·omega

/-- a signal that is turned, its texts written out -/
def turnL (i : Nat) (s : Sig) : Sig := { s with name := turnName i, scale := ⟨-3, 7⟩, min := ⟨5, 1⟩, max := ⟨5, 1⟩, unit := ⟨#[63]⟩, dest := [⟨#[90]⟩] }
theorem turnL_eq (i : Nat) (s : Sig) : turnL i s = turnS i s := by
 have e1 : "?".toUTF8 = ⟨#[63]⟩ := by decide +kernel
 have e2 : "Z".toUTF8 = ⟨#[90]⟩ := by decide +kernel
 unfold turnL turnS
 rw [e1, e2]
theorem other_eq : "Other".toUTF8 = ⟨#[79, 116, 104, 101, 114]⟩ := by decide +kernel

/-- the first k signals are turned -/
def turnTo (l : List Sig) (k : Nat) : List Sig := l.mapIdx fun i s => if i < k then turnL i s else s
theorem turnTo_zero (l : List Sig) : turnTo l 0 = l := by
 unfold turnTo
 apply List.ext_getElem?
 intro i
 rw [List.getElem?_mapIdx]
 cases l[i]? with
 | none => rfl
 | some s => simp
theorem turnTo_get (l : List Sig) (k i : Nat) : (turnTo l k)[i]? = (l[i]?).map fun s => if i < k then turnL i s else s := by
 unfold turnTo
 rw [List.getElem?_mapIdx]
theorem turnTo_next {l : List Sig} {k : Nat} {s : Sig} (h : l[k]? = some s) : (turnTo l k).set k (turnL k s) = turnTo l (k + 1) := by
 apply List.ext_getElem?
 intro i
 rw [List.getElem?_set, turnTo_get, turnTo_get]
 have hk := (List.getElem?_eq_some_iff.1 h).1
 by_cases e : k = i
 ·subst e
  rw [if_pos rfl, if_pos (by unfold turnTo; simpa using hk), h]
  simp
 ·rw [if_neg e]
  cases l[i]? with
  | none => rfl
  | some t =>
   simp only [Option.map_some]
   by_cases h1 : i < k
   ·rw [if_pos h1, if_pos (by omega)]
   ·rw [if_neg h1, if_neg (by omega)]
theorem turnTo_all (m : Msg) : turnTo m.sigs m.sigs.length = m.turned.sigs := by
 apply List.ext_getElem?
 intro i
 rw [turnTo_get, turned_get]
 cases h : m.sigs[i]? with
 | none => rfl
 | some s =>
  have := (List.getElem?_eq_some_iff.1 h).1
  simp only [Option.map_some]
  rw [if_pos this, turnL_eq]
theorem turnTo_here {l : List Sig} {k : Nat} {s : Sig} (h : l[k]? = some s) : (turnTo l k)[k]? = some s := by
 rw [turnTo_get, h]
 simp

end B

namespace Code

theorem wf_turned {m : B.Msg} (h : MsgWf m) : MsgWf m.turned := by
 refine ⟨show B.In64 9 from ⟨by omega, by omega⟩, show B.In64 9 from ⟨by omega, by omega⟩, ⟨show (0 : Int) ≤ 3 by omega, show (3 : Int) ≤ 4294967295 by omega⟩, ?_, h.size, h.sender, fun t ht => ?_⟩
 ·show "Other".toUTF8.size ≤ _
  rw [B.other_eq]; decide
 ·obtain ⟨i, hi⟩ := List.getElem?_of_mem ht
  rw [B.turned_get] at hi
  obtain ⟨s, hs, rfl⟩ := Option.map_eq_some_iff.1 hi
  have w := h.sigs s (List.mem_of_getElem? hs)
  rw [← B.turnL_eq]
  exact ⟨w.line, w.col, by show (B.turnName i).size ≤ _; unfold B.turnName; simp [ByteArray.size], w.role, w.branch, w.start, w.size, ⟨show B.In64 (-3) from ⟨by omega, by omega⟩, show B.In64 7 from ⟨by omega, by omega⟩⟩, w.offset, ⟨show B.In64 5 from ⟨by omega, by omega⟩, show B.In64 1 from ⟨by omega, by omega⟩⟩, ⟨show B.In64 5 from ⟨by omega, by omega⟩, show B.In64 1 from ⟨by omega, by omega⟩⟩, by show (ByteArray.mk #[63]).size ≤ _; decide, fun t ht => by obtain rfl := List.mem_singleton.1 ht; decide⟩

theorem RC.puts {w : World} {b n : Nat} {T : TypeId} {C D : Array Value} (h : RC w b T n C) (vs : List Value) (o : Nat) (hD : D.size = n) (hd : ∀ j, j < n → D.getD j undef = if o ≤ j ∧ j < o + vs.length then vs.getD (j - o) undef else C.getD j undef) : RC (w.setCells b o vs) b T n D :=
 ⟨CellsAt.congr (CellsAt.setCells vs o h.1) (fun j hj => (hd j hj).symm), hD⟩

theorem RC.grownT {w w' : World} {b n X : Nat} {T T' : TypeId} {C D : Array Value} (h : RC w b T n C) (hX : w.heap[X]? = some (.cells D T' (0, 0))) (hne : T ≠ T') (hg : w.grownBy w' (some X)) : RC w' b T n C := by
 refine RC.of h (hg.block b h.blk (fun e => ?_))
 obtain rfl := Option.some.inj e
 obtain ⟨C', hC', _⟩ := h.1
 rw [hC'] at hX
 injection hX with hX
 injection hX with _ hT _
 exact hne hT

section
variable {w : World} {base n cap g i : Nat} {L : List (B.Sig × Value)} {s : B.Sig} {tv : Value}

theorem OwnSg.block (h : OwnSg w base (some ⟨g, 0, none⟩) n cap L) : ∃ C, w.heap[g]? = some (.cells C 40 (0, 0)) := by
 rcases h.form with ⟨e, _⟩ | ⟨g', e, _, _, C, hC⟩
 ·cases e
 ·injection e with e
  injection e with e _ _
  subst e
  exact ⟨C, hC⟩
theorem OwnSg.le (h : OwnSg w base (some ⟨g, 0, none⟩) n cap L) : base ≤ g := by
 rcases h.form with ⟨e, _⟩ | ⟨g', e, h1, _⟩
 ·cases e
 ·injection e with e
  injection e with e _ _
  subst e
  exact h1
theorem OwnSg.there (h : OwnSg w base (some ⟨g, 0, none⟩) n cap L) (hp : L[i]? = some (s, tv)) {f m : Nat} (hm : f + m ≤ 19) : w.there g (i * 19 + f) m := fun j hj => by
 refine ⟨?_, h.free _⟩
 rw [Nat.add_assoc, h.cell hp (j := f + j) (by omega)]
 have : f + j < (sigC s tv).size := by show _ < 19; omega
 rw [Array.getElem?_eq_getElem this]
 rfl

theorem OwnSg.tName (h : OwnSg w base (some ⟨g, 0, none⟩) n cap L) (hp : L[i]? = some (s, tv)) (nm : ByteArray) : OwnSg (w.setCell ⟨g, i * 19 + 2, none⟩ (.string nm)) base (some ⟨g, 0, none⟩) n cap (L.set i ({ s with name := nm }, tv)) :=
 h.put hp _ _ _ (by omega) (fun j hj => by
  match j, hj with
  | 0, _ => rfl
  | 1, _ => rfl
  | 2, _ => rfl
  | 3, _ => rfl
  | 4, _ => rfl
  | 5, _ => rfl
  | 6, _ => rfl
  | 7, _ => rfl
  | 8, _ => rfl
  | 9, _ => rfl
  | 10, _ => rfl
  | 11, _ => rfl
  | 12, _ => rfl
  | 13, _ => rfl
  | 14, _ => rfl
  | 15, _ => rfl
  | 16, _ => rfl
  | 17, _ => rfl
  | 18, _ => rfl
  | n + 19, h => omega) (h.to_ _ (List.mem_of_getElem? hp))
theorem OwnSg.tScale (h : OwnSg w base (some ⟨g, 0, none⟩) n cap L) (hp : L[i]? = some (s, tv)) : OwnSg (w.setCells g (i * 19 + 9) [.int .i64 (-3), .int .i64 7]) base (some ⟨g, 0, none⟩) n cap (L.set i ({ s with scale := ⟨-3, 7⟩ }, tv)) :=
 h.puts (f := 9) hp _ _ _ (by simp) (fun j hj => by
  match j, hj with
  | 0, _ => rfl
  | 1, _ => rfl
  | 2, _ => rfl
  | 3, _ => rfl
  | 4, _ => rfl
  | 5, _ => rfl
  | 6, _ => rfl
  | 7, _ => rfl
  | 8, _ => rfl
  | 9, _ => rfl
  | 10, _ => rfl
  | 11, _ => rfl
  | 12, _ => rfl
  | 13, _ => rfl
  | 14, _ => rfl
  | 15, _ => rfl
  | 16, _ => rfl
  | 17, _ => rfl
  | 18, _ => rfl
  | n + 19, h => omega) (h.to_ _ (List.mem_of_getElem? hp))
theorem OwnSg.tMin (h : OwnSg w base (some ⟨g, 0, none⟩) n cap L) (hp : L[i]? = some (s, tv)) : OwnSg (w.setCells g (i * 19 + 13) [.int .i64 5, .int .i64 1]) base (some ⟨g, 0, none⟩) n cap (L.set i ({ s with min := ⟨5, 1⟩ }, tv)) :=
 h.puts (f := 13) hp _ _ _ (by simp) (fun j hj => by
  match j, hj with
  | 0, _ => rfl
  | 1, _ => rfl
  | 2, _ => rfl
  | 3, _ => rfl
  | 4, _ => rfl
  | 5, _ => rfl
  | 6, _ => rfl
  | 7, _ => rfl
  | 8, _ => rfl
  | 9, _ => rfl
  | 10, _ => rfl
  | 11, _ => rfl
  | 12, _ => rfl
  | 13, _ => rfl
  | 14, _ => rfl
  | 15, _ => rfl
  | 16, _ => rfl
  | 17, _ => rfl
  | 18, _ => rfl
  | n + 19, h => omega) (h.to_ _ (List.mem_of_getElem? hp))
theorem OwnSg.tMax (h : OwnSg w base (some ⟨g, 0, none⟩) n cap L) (hp : L[i]? = some (s, tv)) : OwnSg (w.setCells g (i * 19 + 15) [.int .i64 5, .int .i64 1]) base (some ⟨g, 0, none⟩) n cap (L.set i ({ s with max := ⟨5, 1⟩ }, tv)) :=
 h.puts (f := 15) hp _ _ _ (by simp) (fun j hj => by
  match j, hj with
  | 0, _ => rfl
  | 1, _ => rfl
  | 2, _ => rfl
  | 3, _ => rfl
  | 4, _ => rfl
  | 5, _ => rfl
  | 6, _ => rfl
  | 7, _ => rfl
  | 8, _ => rfl
  | 9, _ => rfl
  | 10, _ => rfl
  | 11, _ => rfl
  | 12, _ => rfl
  | 13, _ => rfl
  | 14, _ => rfl
  | 15, _ => rfl
  | 16, _ => rfl
  | 17, _ => rfl
  | 18, _ => rfl
  | n + 19, h => omega) (h.to_ _ (List.mem_of_getElem? hp))
theorem OwnSg.tUnit (h : OwnSg w base (some ⟨g, 0, none⟩) n cap L) (hp : L[i]? = some (s, tv)) (nm : ByteArray) : OwnSg (w.setCell ⟨g, i * 19 + 17, none⟩ (.string nm)) base (some ⟨g, 0, none⟩) n cap (L.set i ({ s with unit := nm }, tv)) :=
 h.put hp _ _ _ (by omega) (fun j hj => by
  match j, hj with
  | 0, _ => rfl
  | 1, _ => rfl
  | 2, _ => rfl
  | 3, _ => rfl
  | 4, _ => rfl
  | 5, _ => rfl
  | 6, _ => rfl
  | 7, _ => rfl
  | 8, _ => rfl
  | 9, _ => rfl
  | 10, _ => rfl
  | 11, _ => rfl
  | 12, _ => rfl
  | 13, _ => rfl
  | 14, _ => rfl
  | 15, _ => rfl
  | 16, _ => rfl
  | 17, _ => rfl
  | 18, _ => rfl
  | n + 19, h => omega) (h.to_ _ (List.mem_of_getElem? hp))
theorem OwnSg.tTo (h : OwnSg w base (some ⟨g, 0, none⟩) n cap L) (hp : L[i]? = some (s, tv)) (l : List ByteArray) (v : Value) (hv : ToAt w v l) : OwnSg (w.setCell ⟨g, i * 19 + 18, none⟩ v) base (some ⟨g, 0, none⟩) n cap (L.set i ({ s with dest := l }, v)) :=
 h.put hp _ _ _ (by omega) (fun j hj => by
  match j, hj with
  | 0, _ => rfl
  | 1, _ => rfl
  | 2, _ => rfl
  | 3, _ => rfl
  | 4, _ => rfl
  | 5, _ => rfl
  | 6, _ => rfl
  | 7, _ => rfl
  | 8, _ => rfl
  | 9, _ => rfl
  | 10, _ => rfl
  | 11, _ => rfl
  | 12, _ => rfl
  | 13, _ => rfl
  | 14, _ => rfl
  | 15, _ => rfl
  | 16, _ => rfl
  | 17, _ => rfl
  | 18, _ => rfl
  | n + 19, h => omega) hv
end

theorem set_get {α : Type} {l : List α} {i : Nat} (x : α) (h : i < l.length) : (l.set i x)[i]? = some x := by rw [List.getElem?_set, if_pos rfl, if_pos h]

/-- the first bytes of a name -/
theorem name_u8 (k : Nat) (h : k < 64) : ∀ x : Nat, x < 8 → IntKind.u8.wrap (97 + (x : Int)) = 97 + (x : Int) ∧ ((UInt8.ofNat (97 + x)).toNat : Int) = 97 + (x : Int) := by
 have : ∀ x : Fin 8, IntKind.u8.wrap (97 + (x.val : Int)) = 97 + (x.val : Int) ∧ ((UInt8.ofNat (97 + x.val)).toNat : Int) = 97 + (x.val : Int) := by decide +kernel
 exact fun x hx => this ⟨x, hx⟩

theorem name_conv (k : Nat) (h : k < 64) (w : World) : (convert 28 9 (.slice (some ⟨w.heap.size, 0, none⟩) 2 2)).run Tryz.prog (w.alloc (.cells #[.int .u8 (97 + (k : Int) / 8), .int .u8 (97 + (k : Int) % 8)] 5)) = .ok (.string (B.turnName k)) (w.alloc (.cells #[.int .u8 (97 + (k : Int) / 8), .int .u8 (97 + (k : Int) % 8)] 5)) := by
 have e1 := (name_u8 k h (k / 8) (by omega)).2
 have e2 := (name_u8 k h (k % 8) (by omega)).2
 refine run_convert_bytes_back (P := Tryz.prog) _ 28 9 5 ⟨w.heap.size, 0, none⟩ 2 [UInt8.ofNat (97 + k / 8), UInt8.ofNat (97 + k % 8)] Tryz.underlying28 Tryz.underlying5 Tryz.underlying9 (fun j hj => ?_)
 have ea : (⟨w.heap.size, 0, none⟩ : Addr).add j = ⟨w.heap.size, j, none⟩ := by unfold Addr.add; split <;> simp_all
 rw [ea, cell_of_row _ _ _ _ _ _ (heap_alloc_new w _)]
 match j, hj with
 | 0, _ =>
  show some (Value.int .u8 (97 + (k : Int) / 8)) = some (.int .u8 ((UInt8.ofNat (97 + k / 8)).toNat : Int))
  rw [e1]
  rfl
 | 1, _ =>
  show some (Value.int .u8 (97 + (k : Int) % 8)) = some (.int .u8 ((UInt8.ofNat (97 + k % 8)).toNat : Int))
  rw [e2]
  rfl
 | n + 2, h => exact absurd h (by simp)

end Code
end Go.Proofs.YtdpjbnjlognmeaaGreatDoor
