/- 'LowerTurned': how far the turning has come. -/
import Derived.Test.YtdpjbnjlognmeaaGreatDoorLyL
namespace Go.Proofs.YtdpjbnjlognmeaaGreatDoor
open Go.RowKit

namespace Code

/-- a copy, its lists' lengths written out -/
def MsOutN (m : B.Msg) (n : Nat) (w : World) (e : Ending) (w' : World) : Prop := ∃ ao cap L, e = .returned (.agg (msgC m (.slice ao n cap))) ∧ OwnSg w' w.heap.size ao n cap L ∧ L.map (·.1) = m.sigs ∧ Below w.heap.size w w'
theorem MsOut.atN {m : B.Msg} {n : Nat} {w w' : World} {e : Ending} (h : MsOut m w e w') (hn : m.sigs.length = n) : MsOutN m n w e w' := by
 subst hn
 exact h

/-- the cells of a message that is turned -/
def turnC (m : B.Msg) (sv : Value) : Array Value := #[.int .i64 9, .int .i64 9, .int .u32 3, .bool m.wide, .string ⟨#[79, 116, 104, 101, 114]⟩, .int .i64 m.size, .string m.sender, sv]
theorem turnC_eq (m : B.Msg) (sv : Value) : turnC m sv = msgC m.turned sv := by
 unfold turnC msgC
 rw [show m.turned.name = "Other".toUTF8 from rfl, B.other_eq]
 rfl

/-- a copy of a message that is being turned -/
structure TnMid (m : B.Msg) (ca : Option Addr) (n cc X : Nat) (L : List (B.Sig × Value)) (w3 wr : World) : Prop where
 own : OwnSg wr w3.heap.size ca n cc L
 box : RC wr X 27 8 (turnC m (.slice ca n cc))
 bel : Below w3.heap.size w3 wr
 le : w3.heap.size ≤ X

theorem TnMid.alloc {m : B.Msg} {ca : Option Addr} {n cc X : Nat} {L : List (B.Sig × Value)} {w3 wr : World} (h : TnMid m ca n cc X L w3 wr) (o : Obj) : TnMid m ca n cc X L w3 (wr.alloc o) :=
 ⟨h.own.kept ((Below.refl _ _).alloc (Nat.le_refl _) _), h.box.alloc o, h.bel.alloc h.bel.size o, h.le⟩

theorem TnMid.step {m : B.Msg} {g n cc X : Nat} {L L' : List (B.Sig × Value)} {w3 wr w' : World} (h : TnMid m (some ⟨g, 0, none⟩) n cc X L w3 wr) (hg : wr.grownBy w' (some g)) (ho : OwnSg w' w3.heap.size (some ⟨g, 0, none⟩) n cc L') : TnMid m (some ⟨g, 0, none⟩) n cc X L' w3 w' := by
 obtain ⟨C, hC⟩ := h.own.block
 exact ⟨ho, h.box.grownT hC (by decide) hg, h.bel.grown hg h.bel.size (fun k hk => by cases hk; exact h.own.le), h.le⟩

theorem TnMid.put {m : B.Msg} {g n cc X o : Nat} {v : Value} {L L' : List (B.Sig × Value)} {w3 wr : World} (h : TnMid m (some ⟨g, 0, none⟩) n cc X L w3 wr) (ho : OwnSg (wr.setCell ⟨g, o, none⟩ v) w3.heap.size (some ⟨g, 0, none⟩) n cc L') : TnMid m (some ⟨g, 0, none⟩) n cc X L' w3 (wr.setCell ⟨g, o, none⟩ v) :=
 h.step (grownBy_setCells g [v] o wr) ho

/-- how far the turning has come -/
def TnAt (m : B.Msg) (ca : Option Addr) (n cc X k : Nat) (w3 wr : World) : Prop := ∃ L, TnMid m ca n cc X L w3 wr ∧ L.map (·.1) = B.turnTo m.sigs k

theorem TnAt.here {m : B.Msg} {ca : Option Addr} {n cc X k : Nat} {w3 wr : World} {s : B.Sig} (h : TnAt m ca n cc X k w3 wr) (hs : m.sigs[k]? = some s) : ∃ g L tv, ca = some ⟨g, 0, none⟩ ∧ TnMid m ca n cc X L w3 wr ∧ L.map (·.1) = B.turnTo m.sigs k ∧ L[k]? = some (s, tv) := by
 obtain ⟨L, h1, h2⟩ := h
 have hk : (L.map (·.1))[k]? = some s := by rw [h2]; exact B.turnTo_here hs
 rw [List.getElem?_map] at hk
 obtain ⟨p, hp, rfl⟩ := Option.map_eq_some_iff.1 hk
 rcases h1.own.form with ⟨_, h0, _⟩ | ⟨g, e, _⟩
 ·have := h1.own.len
  have := (List.getElem?_eq_some_iff.1 hp).1
  omega
 ·exact ⟨g, L, p.2, e, h1, h2, hp⟩

theorem TnAt.next {m : B.Msg} {ca : Option Addr} {n cc X k : Nat} {w3 wr : World} {s : B.Sig} {L L' : List (B.Sig × Value)} {tv : Value} (hs : m.sigs[k]? = some s) (h : L.map (·.1) = B.turnTo m.sigs k) (h' : TnMid m ca n cc X L' w3 wr) (he : L' = L.set k (B.turnL k s, tv)) : TnAt m ca n cc X (k + 1) w3 wr := by
 refine ⟨L', h', ?_⟩
 rw [he, List.map_set, h, B.turnTo_next hs]

theorem TnAt.sigs {m : B.Msg} {ca : Option Addr} {n cc X : Nat} {w3 wr : World} (h : TnAt m ca n cc X m.sigs.length w3 wr) : SigsAt wr ca n m.turned.sigs := by
 obtain ⟨L, h1, h2⟩ := h
 have := h1.own.sigsAt
 rw [h2, B.turnTo_all] at this
 exact this

theorem RanBox.bel {r : B.Out} {X : Nat} {w wx : World} (h : RanBox r X w wx) : Below w.heap.size w wx := by
 obtain ⟨a1, c1, a2, c2, a3, c3, _, _, _, _, h4, _⟩ := h
 exact h4

end Code
end Go.Proofs.YtdpjbnjlognmeaaGreatDoor
