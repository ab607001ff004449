/- A run's told values in a block of the call's own; plain: what the laws of lower hand to the programs. -/
import Derived.Test.YtdpjbnjlognmeaaGreatDoorLyF
namespace Go.Proofs.YtdpjbnjlognmeaaGreatDoor
open Go.RowKit

namespace B

/-- the first n of a list, noughts behind -/
def padL (vs : List Nat) (n : Nat) : List Nat := (List.range n).map fun i => vs.getD i 0
theorem padL_len (vs : List Nat) (n : Nat) : (padL vs n).length = n := by simp [padL]
theorem padL_get (vs : List Nat) (n i : Nat) (h : i < n) : (padL vs n).getD i 0 = vs.getD i 0 := by
 unfold padL
 rw [List.getD_eq_getElem?_getD, List.getElem?_map, List.getElem?_range h]
 rfl
theorem padL_words {vs : List Nat} (h : Words vs) (n : Nat) : Words (padL vs n) := fun b hb => by
 obtain ⟨i, _, rfl⟩ := List.mem_map.1 hb
 rw [List.getD_eq_getElem?_getD]
 cases hi : vs[i]? with
 | none => decide
 | some x => exact h x (List.mem_of_getElem? hi)
theorem padL_bytes {vs : List Nat} (h : Bytes vs) (n : Nat) : Bytes (padL vs n) := fun b hb => by
 obtain ⟨i, _, rfl⟩ := List.mem_map.1 hb
 rw [List.getD_eq_getElem?_getD]
 cases hi : vs[i]? with
 | none => decide
 | some x => exact h x (List.mem_of_getElem? hi)
end B

namespace Code

theorem slotsV_pad (vs : List Nat) (n : Nat) : slotsV vs n = (B.padL vs n).map u64V := by
 unfold slotsV B.padL
 rw [List.map_map]
 rfl
theorem sizedV_pad (vs : List Nat) (n : Nat) : sizedV vs n = (B.padL vs n).map u8V := by
 unfold sizedV B.padL
 rw [List.map_map]
 rfl

/-- a row of the call's own, behind a write to a block of another type -/
theorem One.OwnV.grownT {E T : TypeId} {w w' : World} {base n cap X : Nat} {ao : Option Addr} {vs : List Value} {C : Array Value} (h : One.OwnV E w base ao n cap vs) (hX : w.heap[X]? = some (.cells C T (0, 0))) (hne : E ≠ T) (hg : w.grownBy w' (some X)) : One.OwnV E w' base ao n cap vs := by
 refine h.keep (fun g e => ?_)
 rcases h.own.2 with ⟨e0, _⟩ | ⟨g', c, cur, e1, hb, hh, h3⟩
 ·injection e0 with e0
  rw [e0] at e; cases e
 ·injection e1 with e1 _ _
  rw [e1] at e
  injection e with e
  injection e with e _ _
  subst e
  refine hg.block _ (lt_of_block hh) (fun e => ?_)
  obtain rfl := Option.some.inj e
  rw [hh] at hX
  injection hX with hX
  injection hX with _ hT _
  exact hne hT

/-- what a run tells lies in a block of the call's own, its lists too -/
def RanBox (r : B.Out) (X : Nat) (w wx : World) : Prop :=
 ∃ a1 c1 a2 c2 a3 c3, RC wx X 44 6 #[.bool (fl r), .int .i64 (slotOf r), .slice a1 (payL r).length c1, .slice a2 (outL r).length c2, .slice a3 (hasL r).length c3, .int .i64 (r.steps : Int)] ∧
  One.OwnV 5 wx w.heap.size a1 (payL r).length c1 ((payL r).map u8V) ∧ One.OwnV 35 wx w.heap.size a2 (outL r).length c2 ((outL r).map u64V) ∧ One.OwnV 4 wx w.heap.size a3 (hasL r).length c3 ((hasL r).map Value.bool) ∧ Below w.heap.size w wx ∧ w.heap.size ≤ X

theorem RanBox.kept {r : B.Out} {X : Nat} {w wx wy : World} (h : RanBox r X w wx) (hb : Below wx.heap.size wx wy) : RanBox r X w wy := by
 obtain ⟨a1, c1, a2, c2, a3, c3, h0, h1, h2, h3, h4, h5⟩ := h
 exact ⟨a1, c1, a2, c2, a3, c3, h0.below hb h0.blk, h1.kept hb, h2.kept hb, h3.kept hb, h4.trans (hb.mono h4.size), h5⟩

/-- .. behind the store of the run's value -/
theorem ranBox_mk {r : B.Out} {X : Nat} {w wz wx : World} {C : Array Value} {a1 a2 a3 : Option Addr} {c1 c2 c3 : Nat} (hX : wz.heap[X]? = some (.cells C 44 (0, 0)))
    (o1 : One.OwnV 5 wz w.heap.size a1 (payL r).length c1 ((payL r).map u8V)) (o2 : One.OwnV 35 wz w.heap.size a2 (outL r).length c2 ((outL r).map u64V)) (o3 : One.OwnV 4 wz w.heap.size a3 (hasL r).length c3 ((hasL r).map Value.bool))
    (hb : Below w.heap.size w wz) (hle : w.heap.size ≤ X) (hg : wz.grownBy wx (some X))
    (hx : wx.heap[X]? = some (.cells #[.bool (fl r), .int .i64 (slotOf r), .slice a1 (payL r).length c1, .slice a2 (outL r).length c2, .slice a3 (hasL r).length c3, .int .i64 (r.steps : Int)] 44 (0, 0))) : RanBox r X w wx :=
 ⟨a1, c1, a2, c2, a3, c3, ⟨⟨_, hx, rfl, fun j hj => getRC rfl j hj⟩, rfl⟩, o1.grownT hX (by decide) hg, o2.grownT hX (by decide) hg, o3.grownT hX (by decide) hg, hb.grown hg hb.size (fun k hk => by cases hk; exact hle), hle⟩

/-- a run's telling, its two lists of signals as long as the message's -/
def RanN (f : Bool) (sl : Int) (pay out : List Nat) (has : List Bool) (st n : Nat) (w : World) (e : Ending) (w' : World) : Prop :=
 ∃ a1 c1 a2 c2 a3 c3, e = .returned (.tuple #[.agg #[.bool f, .int .i64 sl, .slice a1 pay.length c1, .slice a2 n c2, .slice a3 n c3, .int .i64 (st : Int)], .bool true]) ∧
  One.OwnV 5 w' w.heap.size a1 pay.length c1 (pay.map u8V) ∧ One.OwnV 35 w' w.heap.size a2 n c2 (out.map u64V) ∧ One.OwnV 4 w' w.heap.size a3 n c3 (has.map Value.bool) ∧ Below w.heap.size w w'

theorem RanTold.atN {f : Bool} {sl : Int} {pay out : List Nat} {has : List Bool} {st n : Nat} {w w' : World} {e : Ending} (h : RanTold f sl pay out has st w e w') (ho : out.length = n) (hh : has.length = n) : RanN f sl pay out has st n w e w' := by
 unfold RanTold at h
 rw [ho, hh] at h
 exact h

end Code
end Go.Proofs.YtdpjbnjlognmeaaGreatDoor
