/- What is read and laid again: the values that are laid, the bits that are owned. -/
import Derived.Test.YtdpjbnjlognmeaaGreatDoorLyH
import Derived.Test.YtdpjbnjlognmeaaGreatDoorLyG
namespace Go.Proofs.YtdpjbnjlognmeaaGreatDoor
open Go.RowKit

namespace B

/-- what is laid again: what was read, and a value that fits nothing -/
def agL (out : List Nat) (has : List Bool) (k : Nat) : List Nat := (List.range k).map fun i => if has.getD i false = true then out.getD i 0 else 9223372036854775808

theorem agL_len (out : List Nat) (has : List Bool) (k : Nat) : (agL out has k).length = k := by simp [agL]
theorem agL_succ (out : List Nat) (has : List Bool) (k : Nat) : agL out has (k + 1) = agL out has k ++ [if has.getD k false = true then out.getD k 0 else 9223372036854775808] := by
 unfold agL
 rw [List.range_succ, List.map_append]
 rfl
theorem agL_yes {out : List Nat} {has : List Bool} {k : Nat} (h : has.getD k false = true) : agL out has (k + 1) = agL out has k ++ [out.getD k 0] := by rw [agL_succ, if_pos h]
theorem agL_no {out : List Nat} {has : List Bool} {k : Nat} (h : has.getD k false = false) : agL out has (k + 1) = agL out has k ++ [9223372036854775808] := by rw [agL_succ, if_neg (by rw [h]; decide)]
theorem agL_get {out : List Nat} {has : List Bool} {n k : Nat} (hk : k < n) (h : has.getD k false = true) : (agL out has n).getD k 0 = out.getD k 0 := by
 unfold agL
 rw [List.getD_eq_getElem?_getD, List.getElem?_map, List.getElem?_range hk]
 show (if has.getD k false = true then out.getD k 0 else 9223372036854775808) = _
 rw [if_pos h]
theorem agL_words {out : List Nat} {has : List Bool} (h : Words out) (n : Nat) : Words (agL out has n) := fun b hb => by
 obtain ⟨i, _, rfl⟩ := List.mem_map.1 hb
 split
 ·rw [List.getD_eq_getElem?_getD]
  cases hi : out[i]? with
  | none => decide
  | some x => exact h x (List.mem_of_getElem? hi)
 ·decide

theorem one_lt {s : Sig} (pay : List Nat) (hp : s.placeNo = 0) : s.one pay < 18446744073709551616 := by
 have hz := Sig.place_ok hp
 have hlt := rdF_lt pay s.bits
 rw [s.bits_length] at hlt
 have h64 : (2 : Nat) ^ s.size.toNat ≤ 2 ^ 64 := Nat.pow_le_pow_right (by omega) (by omega)
 exact extend_lt s.signed (by omega) (Nat.lt_of_lt_of_le hlt h64)
theorem outTo_words (pay : List Nat) (at' : Nat) : ∀ (l : List Sig) (i : Nat) (o : List Nat), (∀ s ∈ l, s.placeNo = 0) → Words o → Words (outTo pay at' i l o)
 | [], _, _, _, h => h
 | s :: r, i, o, hl, h => by
  refine outTo_words pay at' r (i + 1) _ (fun t ht => hl t (List.mem_cons_of_mem _ ht)) ?_
  split
  ·intro b hb
   rcases List.mem_or_eq_of_mem_set hb with hb | rfl
   ·exact h b hb
   ·exact one_lt pay (hl s List.mem_cons_self)
  ·exact h
theorem unpack_words {m : Msg} (h : m.Ok) {pay inp : List Nat} (hp : pay.length = m.size.toNat) {s2 : St} {c2 : Nat} (hr : run m.unpackI inp 0 (start pay m.sigs.length) = ⟨none, s2, c2⟩) : Words s2.out := by
 obtain ⟨s', n, e, _, o, _⟩ := unpack_run h.lays (inp := inp) hp m.sigs.length
 obtain rfl : s' = s2 := by have := e.symm.trans hr; injection this
 rw [o]
 exact outTo_words pay _ m.sigs 0 _ (fun s hs => (h.inPay s hs).place) (fun b hb => by rw [List.eq_of_mem_replicate hb]; decide)

/-- has one of the first k, if it is active, a bit? -/
def Msg.ownedTo (m : Msg) (at' k j : Nat) : Bool := (m.sigs.take k).any fun s => s.active at' && decide (j ∈ s.bits)
theorem Msg.ownedTo_zero (m : Msg) (at' : Nat) : (fun j => m.ownedTo at' 0 j) = fun _ => false := by
 funext j
 simp [Msg.ownedTo]
theorem Msg.ownedTo_all (m : Msg) (at' : Nat) : (fun j => m.ownedTo at' m.sigs.length j) = fun j => m.owned at' j := by
 funext j
 simp [Msg.ownedTo, Msg.owned]
theorem Msg.ownedTo_succ {m : Msg} {at' k : Nat} {s : Sig} (hs : m.sigs[k]? = some s) (j : Nat) : m.ownedTo at' (k + 1) j = (m.ownedTo at' k j || (s.active at' && decide (j ∈ s.bits))) := by
 unfold Msg.ownedTo
 rw [List.take_add_one, hs, List.any_append]
 simp
theorem Msg.ownedTo_yes {m : Msg} {at' k : Nat} {s : Sig} (hs : m.sigs[k]? = some s) (ha : s.active at' = true) : (fun j => m.ownedTo at' (k + 1) j) = fun j => m.ownedTo at' k j || decide (j ∈ s.bits) := by
 funext j
 rw [ownedTo_succ hs, ha, Bool.true_and]
theorem Msg.ownedTo_no {m : Msg} {at' k : Nat} {s : Sig} (hs : m.sigs[k]? = some s) (ha : s.active at' = false) : (fun j => m.ownedTo at' (k + 1) j) = fun j => m.ownedTo at' k j := by
 funext j
 rw [ownedTo_succ hs, ha, Bool.false_and, Bool.or_false]

end B

namespace Code

/-- how far the reading has come: the values to be laid, the bits that are owned -/
structure AgAt (m : B.Msg) (out : List Nat) (has : List Bool) (at' N k c : Nat) (ao : Option Addr) (w6 wr : World) : Prop where
 row : One.OwnV 35 wr (N + 1) ao k c ((B.agL out has k).map u64V)
 set : SetAt wr N (fun j => m.ownedTo at' k j)
 bel : Below N w6 wr
 blk : N < wr.heap.size

theorem AgAt.skip {m : B.Msg} {out : List Nat} {has : List Bool} {at' N k c c' : Nat} {ao ao' : Option Addr} {w6 wr w5 : World} {s : B.Sig} (h : AgAt m out has at' N k c ao w6 wr) (hs : m.sigs[k]? = some s) (ha : s.active at' = false) (hh : has.getD k false = false)
    (ho : One.OwnV 35 w5 (N + 1) ao' (k + 1) c' ((B.agL out has k).map u64V ++ [.int .u64 9223372036854775808])) (hb : Below (N + 1) wr w5) : AgAt m out has at' N (k + 1) c' ao' w6 w5 :=
 ⟨by rw [B.agL_no hh, List.map_append]; exact ho, by rw [B.Msg.ownedTo_no hs ha]; exact CellsAt.below h.set hb (Nat.lt_succ_self _), h.bel.trans (hb.mono (Nat.le_succ _)), Nat.lt_of_lt_of_le h.blk hb.size⟩

theorem AgAt.next {m : B.Msg} {out : List Nat} {has : List Bool} {at' N k c c' : Nat} {ao ao' : Option Addr} {w6 wr w5 wx wy : World} {s : B.Sig} {x : Nat} (h : AgAt m out has at' N k c ao w6 wr) (hs : m.sigs[k]? = some s) (ha : s.active at' = true) (hh : has.getD k false = true) (hx : out.getD k 0 = x)
    (ho : One.OwnV 35 w5 (N + 1) ao' (k + 1) c' ((B.agL out has k).map u64V ++ [.int .u64 (x : Int)])) (hb : Below (N + 1) wr w5) (hb5 : Below w5.heap.size w5 wx) (hset : SetAt wy N (fun j => m.ownedTo at' k j || decide (j ∈ s.bits))) (hg : wx.grownBy wy (some N)) : AgAt m out has at' N (k + 1) c' ao' w6 wy := by
 have hN5 : N < w5.heap.size := Nat.lt_of_lt_of_le h.blk hb.size
 refine ⟨?_, by rw [B.Msg.ownedTo_yes hs ha]; exact hset, ?_, Nat.lt_of_lt_of_le hN5 (Nat.le_trans hb5.size hg.size)⟩
 ·rw [B.agL_yes hh, List.map_append, hx]
  refine (ho.kept hb5).keep (fun g e => ?_)
  rcases (ho.kept hb5).form with ⟨e0, _⟩ | ⟨g', e1, h1, h2⟩
  ·rw [e0] at e; cases e
  ·rw [e1] at e
   injection e with e
   injection e with e _ _
   subst e
   exact hg.block _ h2 (fun e => by have := Option.some.inj e; omega)
 ·exact (h.bel.trans ((hb.mono (Nat.le_succ _)).trans (hb5.mono (Nat.le_of_lt hN5)))).grown hg (Nat.le_trans (Nat.le_of_lt hN5) hb5.size) (fun k hk => by cases hk; exact Nat.le_refl _)

end Code
end Go.Proofs.YtdpjbnjlognmeaaGreatDoor
