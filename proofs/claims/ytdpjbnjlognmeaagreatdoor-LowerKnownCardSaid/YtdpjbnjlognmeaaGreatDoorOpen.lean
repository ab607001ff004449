/- A list of instructions that came in, opened: its instructions in memory, each in range; its length is within the reach. -/
import Derived.Test.YtdpjbnjlognmeaaGreatDoorBaseQ
import Derived.ProofKit
import Derived.SizedLaws
import Derived.Deep.Slices
namespace Go.Proofs.YtdpjbnjlognmeaaGreatDoor
open Go.ChangeShapes Go.WideShapes Go.ChangeAt Go.RowKit

theorem cells105 : Tryz.prog.cellsOf 105 = 5 := by kernel_rfl
theorem cells3 : Tryz.prog.cellsOf 3 = 1 := by kernel_rfl
theorem cells35 : Tryz.prog.cellsOf 35 = 1 := by kernel_rfl
theorem bytes105 : Tryz.prog.bytesOf 105 = 40 := by kernel_rfl

theorem wf_i64_in {n : Int} (h : (Lit.int .i64 n).wf = true) : B.In64 n := by
 unfold B.In64
 simpa [Lit.wf, IntKind.min, IntKind.max, IntKind.signed, IntKind.bits] using h

theorem wf_u64_in {n : Int} (h : (Lit.int .u64 n).wf = true) : B.InU64 n := by
 unfold B.InU64
 simpa [Lit.wf, IntKind.min, IntKind.max, IntKind.signed, IntKind.bits] using h

theorem len5 {α : Type} {l : List α} (h : l.length = 5) : ∃ a b c d e, l = [a, b, c, d, e] := by
 match l, h with
 | [a, b, c, d, e], _ => exact ⟨a, b, c, d, e, rfl⟩

section
variable {H : Type} {enc : TypeId × Value → H} {w : World} {spare : Nat → Bool} {held : Bool}

theorem open_ins {fuel : Nat} {cs : List Value} {x : DataW H × List MemPlace} (h : DataW.trod enc Tryz.prog w 0 spare held fuel 105 cs = some x) : ∃ y : B.Ins, cs = cellsI y ∧ y.Wf := by
 obtain ⟨xs, n, _, _, hl, hn, hf⟩ := DataW.trod_struct Tryz.underlying105 h
 rw [cells105] at hl
 obtain ⟨v0, v1, v2, v3, v4, rfl⟩ := len5 hl
 ·have g0 := hf 0 _ rfl
  have g1 := hf 1 _ rfl
  have g2 := hf 2 _ rfl
  have g3 := hf 3 _ rfl
  have g4 := hf 4 _ rfl
  simp [cells3] at g0 g1 g2 g3
  simp [cells35] at g4
  have h5 : xs.length = 5 := hn
  obtain ⟨x0, x1, x2, x3, x4, rfl⟩ := len5 h5
  ·obtain ⟨n0, e0, _, w0⟩ := DataW.trod_int Tryz.underlying3 (x := x0) (by simpa using g0)
   obtain ⟨n1, e1, _, w1⟩ := DataW.trod_int Tryz.underlying3 (x := x1) (by simpa using g1)
   obtain ⟨n2, e2, _, w2⟩ := DataW.trod_int Tryz.underlying3 (x := x2) (by simpa using g2)
   obtain ⟨n3, e3, _, w3⟩ := DataW.trod_int Tryz.underlying3 (x := x3) (by simpa using g3)
   obtain ⟨n4, e4, _, w4⟩ := DataW.trod_int Tryz.underlying35 (x := x4) (by simpa using g4)
   simp only [List.cons.injEq, and_true] at e0 e1 e2 e3 e4
   subst e0 e1 e2 e3 e4
   exact ⟨⟨n0, n1, n2, n3, n4⟩, rfl, wf_i64_in w0, wf_i64_in w1, wf_i64_in w2, wf_i64_in w3, wf_u64_in w4⟩

theorem open_prog {fuel : Nat} {a : Option Addr} {len cap : Nat} {d : DataW H} {p : List MemPlace} (h : DataW.trod enc Tryz.prog w 0 (fun _ => true) held fuel 78 [.slice a len cap] = some (d, p)) :
    ∃ ps, ProgAt w a len ps ∧ (∀ y ∈ ps, y.Wf) ∧ ∀ (ts : List TypeId) (ds : List (DataW H)) (j : Nat), (DataW.weightsEach Tryz.prog ts ds).all (· ≤ reachBytes) = true → ts[j]? = some 78 → ds[j]? = some d → len * 40 ≤ 140737488351232 := by
 rcases Deep.open_slice Tryz.underlying78 h with ⟨hcs, hx⟩ | ⟨ad, len', cap', m, n, D, Pl, hcs, _, hl, hm, hmm, hx, hel⟩
 ·simp only [List.cons.injEq, and_true, Value.slice.injEq] at hcs
  obtain ⟨rfl, rfl, rfl⟩ := hcs
  exact ⟨[], ⟨rfl, fun i x hx => by simp at hx⟩, fun y hy => by simp at hy, fun _ _ _ _ _ _ => by omega⟩
 ·simp only [List.cons.injEq, and_true, Value.slice.injEq] at hcs
  obtain ⟨rfl, rfl, rfl⟩ := hcs
  simp only [if_true] at hmm
  subst hmm
  have one : ∀ i, i < len → ∃ y : B.Ins, (ad.spot = none ∧ ad.block < w.heap.size ∧ InsAt w ad.block (ad.off + i * 5) y) ∧ y.Wf := by
   intro i hi
   obtain ⟨cs', h1, h2⟩ := hel i (by omega)
   obtain ⟨y, rfl, hwf⟩ := open_ins h2
   rw [cells105] at h1
   obtain ⟨_, _, hc⟩ := World.cells?_some h1
   have hc0 := hc 0 (by omega)
   have hc1 := hc 1 (by omega)
   have hc2 := hc 2 (by omega)
   have hc3 := hc 3 (by omega)
   have hc4 := hc 4 (by omega)
   rw [Deep.add_add] at hc0 hc1 hc2 hc3 hc4
   have sp : ad.spot = none := by
    obtain ⟨z, hz⟩ : ∃ z : Nat, z = 0 := ⟨0, rfl⟩
    obtain ⟨cs0, k1, k2⟩ := hel z (by omega)
    obtain ⟨y0, rfl, _⟩ := open_ins k2
    rw [cells105] at k1
    obtain ⟨_, _, k2⟩ := World.cells?_some k1
    have k3 : w.cell? ((ad.add (z * 5)).add 0) = some (.int .i64 y0.op) := k2 0 (by omega)
    have k4 := World.cell?_spot k3
    rwa [Deep.add_add, Addr.add, if_pos (by omega)] at k4
   obtain ⟨blk, off, spot⟩ := ad
   simp only at sp
   subst sp
   have ea : ∀ j, (⟨blk, off, none⟩ : Addr).add (i * 5 + j) = ⟨blk, off + i * 5 + j, none⟩ := by
    intro j; unfold Addr.add; split
    ·rename_i hz
     obtain rfl : i = 0 := by omega
     obtain rfl : j = 0 := by omega
     simp
    ·simp [Nat.add_assoc]
   rw [ea] at hc0 hc1 hc2 hc3 hc4
   have hat : InsAt w blk (off + i * 5) y := ⟨hc0, hc1, hc2, hc3, hc4⟩
   exact ⟨y, ⟨rfl, World.block_lt_of_cell? w ⟨blk, off + i * 5, none⟩ hat.c0, hat⟩, hwf⟩
  obtain ⟨f, hf⟩ := Deep.choose_lt one
  refine ⟨(List.range len).map f, ⟨by simp, fun i x hx => ?_⟩, fun y hy => ?_, fun ts ds j hs ht hd => ?_⟩
  ·have hi : i < len := by simpa using (List.getElem?_eq_some_iff.1 hx).1
   rw [List.getElem?_map, List.getElem?_range hi] at hx
   simp at hx
   subst hx
   obtain ⟨blk, off, spot⟩ := ad
   have := (hf i hi).1
   simp only at this
   exact ⟨blk, off, by rw [this.1], this.2.1, this.2.2⟩
  ·obtain ⟨i, hi, rfl⟩ := List.mem_map.1 hy
   exact (hf i (List.mem_range.1 hi)).2
  ·simp only [Prod.mk.injEq] at hx
   rw [hx.1] at hd
   have := sized_slice hs ht hd Tryz.underlying78
   rw [bytes105] at this
   simp only [List.length_map, List.length_range, reachBytes] at this
   omega
end

end Go.Proofs.YtdpjbnjlognmeaaGreatDoor
