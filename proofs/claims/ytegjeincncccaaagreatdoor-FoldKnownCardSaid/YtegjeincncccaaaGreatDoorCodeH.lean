/- Package code: a field's functions, called by their values: what they ask, write, read. -/
import Derived.Test.YtegjeincncccaaaGreatDoorCodeG
import Derived.Shelf.Abstract
namespace Go.Proofs.YtegjeincncccaaaGreatDoor
open Go.RowKit

namespace Code

/-- a function value of the program, with what it captures; it enters its function -/
structure FnVal (v : Value) (f : Nat) (caps : Array Value) : Prop where
 eq : v = .func (.func f) #[] caps
 enters : ∀ (args : Array Value) (w : World), (callFunc f args).run Tryz.prog w = .ok (.enter f args) w

theorem en_small1 (b4 b5 b6 : Nat) : FnVal (f1 b4 b5 b6) 251 #[P0 b4, P0 b5, P0 b6] := ⟨rfl, enters_of Tryz.func251 (by kernel_rfl) rfl⟩
theorem en_small2 (b4 : Nat) : FnVal (f2 b4) 252 #[P0 b4] := ⟨rfl, enters_of Tryz.func252 (by kernel_rfl) rfl⟩
theorem en_small3 (b4 : Nat) : FnVal (f3 b4) 253 #[P0 b4] := ⟨rfl, enters_of Tryz.func253 (by kernel_rfl) rfl⟩
theorem en_small4 (b7 b4 : Nat) : FnVal (f4 b7 b4) 255 #[P0 b7, P0 b4] := ⟨rfl, enters_of Tryz.func255 (by kernel_rfl) rfl⟩
theorem en_number1 : FnVal (fn0 260) 260 #[] := ⟨rfl, enters_of Tryz.func260 (by kernel_rfl) rfl⟩
theorem en_number2 : FnVal (fn0 261) 261 #[] := ⟨rfl, enters_of Tryz.func261 (by kernel_rfl) rfl⟩
theorem en_number3 : FnVal (fn0 263) 263 #[] := ⟨rfl, enters_of Tryz.func263 (by kernel_rfl) rfl⟩
theorem en_number4 : FnVal (fn0 265) 265 #[] := ⟨rfl, enters_of Tryz.func265 (by kernel_rfl) rfl⟩
theorem en_sign1 : FnVal (fn0 293) 293 #[] := ⟨rfl, enters_of Tryz.func293 (by kernel_rfl) rfl⟩
theorem en_sign2 : FnVal (fn0 294) 294 #[] := ⟨rfl, enters_of Tryz.func294 (by kernel_rfl) rfl⟩
theorem en_skip1 : FnVal (fn0 296) 296 #[] := ⟨rfl, enters_of Tryz.func296 (by kernel_rfl) rfl⟩
theorem en_skip2 : FnVal (fn0 297) 297 #[] := ⟨rfl, enters_of Tryz.func297 (by kernel_rfl) rfl⟩
theorem en_bytes1 : FnVal (fn0 292) 292 #[] := ⟨rfl, enters_of Tryz.func292 (by kernel_rfl) rfl⟩

theorem ok_call {w : World} {fk : FK} {v0 v1 v2 v3 v4 : Value} (h : FieldAt w fk v0 v1 v2 v3 v4) : ∃ f caps, FnVal v0 f caps ∧
    ∀ (N : Nat) (w2 : World) (x : B.Ins) (args : Array Value), Below N w w2 → w.heap.size ≤ N → (fk = .bytes → 0 ≤ x.b ∧ x.b ≤ 7) → args = #[valI x] ++ caps →
     Calls Tryz.prog f args w2 fun e w' => e = .returned (.bool (okB fk x)) ∧ Below w2.heap.size w2 w' := by
 cases fk with
 | small k lo hi =>
  obtain ⟨hk, b4, b5, b6, b7, hc, rfl, rfl, rfl, rfl, rfl⟩ := h
  refine ⟨_, _, en_small1 _ _ _, fun N w2 x args hb hN _ he => ?_⟩
  obtain rfl : args = #[valI x, P0 b4, P0 b5, P0 b6] := by simpa using he
  exact ok_small k hk lo hi b4 b5 b6 b7 x w2 (hc.below hb hN)
 | number =>
  obtain ⟨rfl, rfl, rfl, rfl, rfl⟩ := h
  refine ⟨_, _, en_number1, fun N w2 x args hb hN _ he => ?_⟩
  obtain rfl : args = #[valI x] := by simpa using he
  exact ok_number x w2
 | sign =>
  obtain ⟨rfl, rfl, rfl, rfl, rfl⟩ := h
  refine ⟨_, _, en_sign1, fun N w2 x args hb hN _ he => ?_⟩
  obtain rfl : args = #[valI x] := by simpa using he
  exact ok_sign x w2
 | skip =>
  obtain ⟨b4, b5, b6, b7, hc, rfl, rfl, rfl, rfl, rfl⟩ := h
  refine ⟨_, _, en_small1 _ _ _, fun N w2 x args hb hN _ he => ?_⟩
  obtain rfl : args = #[valI x, P0 b4, P0 b5, P0 b6] := by simpa using he
  exact ok_small 2 (by omega) 0 16384 b4 b5 b6 b7 x w2 (hc.below hb hN)
 | bytes =>
  obtain ⟨b4, b5, b6, b7, hc, rfl, rfl, rfl, rfl, rfl⟩ := h
  refine ⟨_, _, en_bytes1, fun N w2 x args hb hN hx he => ?_⟩
  obtain rfl : args = #[valI x] := by simpa using he
  exact ok_bytes x w2 (hx rfl)

theorem write_call {w : World} {fk : FK} {v0 v1 v2 v3 v4 : Value} (h : FieldAt w fk v0 v1 v2 v3 v4) : ∃ f caps, FnVal v1 f caps ∧
    ∀ (N : Nat) (w2 : World) (x : B.Ins) (Bw base : Nat) (bs : List Nat) (args : Array Value), Below N w w2 → w.heap.size ≤ N → B.InU64 x.imm → bs.length ≤ 100 → WrAt w2 base Bw bs x → base ≤ w2.heap.size → args = #[P0 Bw] ++ caps →
     Calls Tryz.prog f args w2 fun e w' => e = .returned (.tuple #[]) ∧ WrAt w' base Bw (bs ++ enc fk x) x ∧ Below base w2 w' := by
 cases fk with
 | small k lo hi =>
  obtain ⟨hk, b4, b5, b6, b7, hc, rfl, rfl, rfl, rfl, rfl⟩ := h
  refine ⟨_, _, en_small2 _, fun N w2 x Bw base bs args hb hN hx hl hw hbase he => ?_⟩
  obtain rfl : args = #[P0 Bw, P0 b4] := by simpa using he
  exact write_small k hk b4 Bw base bs x w2 (hc.below hb hN).c4 hl hw hbase
 | number =>
  obtain ⟨rfl, rfl, rfl, rfl, rfl⟩ := h
  refine ⟨_, _, en_number2, fun N w2 x Bw base bs args hb hN hx hl hw hbase he => ?_⟩
  obtain rfl : args = #[P0 Bw] := by simpa using he
  exact write_number Bw base bs x w2 hx hl hw hbase
 | sign =>
  obtain ⟨rfl, rfl, rfl, rfl, rfl⟩ := h
  refine ⟨_, _, en_number2, fun N w2 x Bw base bs args hb hN hx hl hw hbase he => ?_⟩
  obtain rfl : args = #[P0 Bw] := by simpa using he
  exact write_number Bw base bs x w2 hx hl hw hbase
 | skip =>
  obtain ⟨b4, b5, b6, b7, hc, rfl, rfl, rfl, rfl, rfl⟩ := h
  refine ⟨_, _, en_skip1, fun N w2 x Bw base bs args hb hN hx hl hw hbase he => ?_⟩
  obtain rfl : args = #[P0 Bw] := by simpa using he
  exact write_skip Bw base bs x w2 hl hw hbase
 | bytes =>
  obtain ⟨b4, b5, b6, b7, hc, rfl, rfl, rfl, rfl, rfl⟩ := h
  refine ⟨_, _, en_small2 _, fun N w2 x Bw base bs args hb hN hx hl hw hbase he => ?_⟩
  obtain rfl : args = #[P0 Bw, P0 b4] := by simpa using he
  exact write_small 2 (by omega) b4 Bw base bs x w2 (hc.below hb hN).c4 hl hw hbase

theorem byteOf_lt (v : Int) : byteOf v < 256 := by unfold byteOf; omega

theorem read_call {w : World} {fk : FK} {v0 v1 v2 v3 v4 : Value} (h : FieldAt w fk v0 v1 v2 v3 v4) : ∃ f caps, FnVal v2 f caps ∧
    ∀ (N : Nat) (w2 : World) (x y : B.Ins) (Rb base : Nat) (bytes : List Nat) (p : Nat) (args : Array Value), Below N w w2 → w.heap.size ≤ N → w.heap.size ≤ base → B.InU64 y.imm → okB fk y = true → bytes.length ≤ 100 → RdAt w2 base Rb bytes p x →
     (∀ i c, (enc fk y)[i]? = some c → bytes[p + i]? = some c) → args = #[P0 Rb] ++ caps →
     Calls Tryz.prog f args w2 fun e w' => e = .returned (.tuple #[]) ∧ RdAt w' base Rb bytes (p + (enc fk y).length) (got fk x y) ∧ Below base w2 w' := by
 cases fk with
 | small k lo hi =>
  obtain ⟨hk, b4, b5, b6, b7, hc, rfl, rfl, rfl, rfl, rfl⟩ := h
  refine ⟨_, _, en_small3 _, fun N w2 x y Rb base bytes p args hb hN hbase hy hok hl hr he ha => ?_⟩
  obtain rfl : args = #[P0 Rb, P0 b4] := by simpa using ha
  exact read_small k hk b4 Rb base bytes p (byteOf (get k y)) x w2 (hc.below hb hN).c4 (Nat.lt_of_lt_of_le hc.l4 hbase) hr (he 0 _ rfl) (byteOf_lt _) hl
 | number =>
  obtain ⟨rfl, rfl, rfl, rfl, rfl⟩ := h
  refine ⟨_, _, en_number3, fun N w2 x y Rb base bytes p args hb hN hbase hy hok hl hr he ha => ?_⟩
  obtain rfl : args = #[P0 Rb] := by simpa using ha
  unfold B.InU64 at hy
  have := read_number Rb base bytes p y.imm.toNat x w2 hr (by omega) he hl
  rw [show ((y.imm.toNat : Nat) : Int) = y.imm by omega] at this
  exact this
 | sign =>
  obtain ⟨rfl, rfl, rfl, rfl, rfl⟩ := h
  refine ⟨_, _, en_number3, fun N w2 x y Rb base bytes p args hb hN hbase hy hok hl hr he ha => ?_⟩
  obtain rfl : args = #[P0 Rb] := by simpa using ha
  unfold B.InU64 at hy
  have := read_number Rb base bytes p y.imm.toNat x w2 hr (by omega) he hl
  rw [show ((y.imm.toNat : Nat) : Int) = y.imm by omega] at this
  exact this
 | skip =>
  obtain ⟨b4, b5, b6, b7, hc, rfl, rfl, rfl, rfl, rfl⟩ := h
  refine ⟨_, _, en_skip2, fun N w2 x y Rb base bytes p args hb hN hbase hy hok hl hr he ha => ?_⟩
  obtain rfl : args = #[P0 Rb] := by simpa using ha
  simp [okB, inB] at hok
  have e : (y.n % 18446744073709551616).toNat = y.n.toNat := by omega
  simp only [enc, e] at he ⊢
  have := read_skip Rb base bytes p y.n.toNat x w2 hr (by omega) he hl
  rw [show ((y.n.toNat : Nat) : Int) = y.n by omega] at this
  exact this
 | bytes =>
  obtain ⟨b4, b5, b6, b7, hc, rfl, rfl, rfl, rfl, rfl⟩ := h
  refine ⟨_, _, en_small3 _, fun N w2 x y Rb base bytes p args hb hN hbase hy hok hl hr he ha => ?_⟩
  obtain rfl : args = #[P0 Rb, P0 b4] := by simpa using ha
  exact read_small 2 (by omega) b4 Rb base bytes p (byteOf y.n) x w2 (hc.below hb hN).c4 (Nat.lt_of_lt_of_le hc.l4 hbase) hr (he 0 _ rfl) (byteOf_lt _) hl

end Code
end Go.Proofs.YtegjeincncccaaaGreatDoor
