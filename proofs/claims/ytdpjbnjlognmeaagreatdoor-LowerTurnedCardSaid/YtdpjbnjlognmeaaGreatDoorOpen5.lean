/- Lists of numbers that came in, opened. -/
import Derived.Test.YtdpjbnjlognmeaaGreatDoorOpen
import Derived.Test.YtdpjbnjlognmeaaGreatDoorVmP
namespace Go.Proofs.YtdpjbnjlognmeaaGreatDoor
open Go.ChangeShapes Go.WideShapes Go.ChangeAt Go.RowKit Go.Proofs.YtdpjbnjlognmeaaGreatDoor.Code

theorem cells5 : Tryz.prog.cellsOf 5 = 1 := by kernel_rfl

section
variable {H : Type} {enc : TypeId × Value → H} {w : World} {held : Bool}

theorem open_nums {t e : TypeId} {k : IntKind} {M : Nat} (ht : Tryz.prog.underlying t = some (.slice e)) (he : Tryz.prog.underlying e = some (.int k)) (hc : Tryz.prog.cellsOf e = 1) (hM : ∀ n : Int, (Lit.int k n).wf = true → 0 ≤ n ∧ n < M)
    {fuel : Nat} {a : Option Addr} {len cap : Nat} {d : DataW H} {p : List MemPlace} (h : DataW.trod enc Tryz.prog w 0 (fun _ => true) held fuel t [.slice a len cap] = some (d, p)) :
    ∃ l : List Nat, ListAt w a len (l.map (fun b : Nat => Value.int k (b : Int))) ∧ (∀ b ∈ l, b < M) ∧ (a = none → cap = 0) ∧ len ≤ 9223372036854775807 := by
 rcases Deep.open_slice1 ht hc h with ⟨hcs, hx⟩ | ⟨ad, len', cap', m, n, V, D, Pl, hcs, _, hl, hm, hmm, hx, hel⟩
 ·simp only [List.cons.injEq, and_true, Value.slice.injEq] at hcs
  obtain ⟨rfl, rfl, rfl⟩ := hcs
  exact ⟨[], ⟨rfl, fun i v hv => by simp at hv⟩, fun b hb => (by cases hb), fun _ => rfl, by omega⟩
 ·simp only [List.cons.injEq, and_true, Value.slice.injEq] at hcs
  obtain ⟨rfl, rfl, rfl⟩ := hcs
  simp only [if_true] at hmm
  subst hmm
  have one : ∀ i, i < len → ∃ b : Nat, b < M ∧ w.cell? (ad.add i) = some (.int k (b : Int)) := by
   intro i hi
   obtain ⟨h1, h2⟩ := hel i (by omega)
   obtain ⟨n0, e0, _, w0⟩ := DataW.trod_int he h2
   simp only [List.cons.injEq, and_true] at e0
   have hn := hM n0 w0
   obtain ⟨b, rfl⟩ : ∃ b : Nat, n0 = (b : Int) := ⟨n0.toNat, by omega⟩
   exact ⟨b, by omega, by rw [h1, e0]⟩
  obtain ⟨f, hf⟩ := Deep.choose_lt one
  refine ⟨(List.range len).map f, ⟨by simp, fun i v hv => ?_⟩, fun b hb => ?_, fun h => (by cases h), by unfold maxLen at hm; omega⟩
  ·rw [List.map_map] at hv
   have hi : i < len := by simpa using (List.getElem?_eq_some_iff.1 hv).1
   rw [List.getElem?_map, List.getElem?_range hi] at hv
   simp at hv
   subst hv
   have h0 := (hf 0 (by omega)).2
   have hi2 := (hf i hi).2
   have sp := World.cell?_spot h0
   have e0 : ad.add 0 = ad := by unfold Addr.add; simp
   rw [e0] at sp
   obtain ⟨blk, off, spot⟩ := ad
   simp only at sp
   subst sp
   have ea : (⟨blk, off, none⟩ : Addr).add i = ⟨blk, off + i, none⟩ := by
    unfold Addr.add; split
    ·rename_i hz; simp
    ·rfl
   rw [ea] at hi2
   exact ⟨blk, off, rfl, World.block_lt_of_cell? w _ hi2, hi2⟩
  ·obtain ⟨i, hi, rfl⟩ := List.mem_map.1 hb
   exact (hf i (List.mem_range.1 hi)).1

theorem wf_u8_nat (n : Int) (h : (Lit.int .u8 n).wf = true) : 0 ≤ n ∧ n < (256 : Nat) := by
 simp [Lit.wf, IntKind.min, IntKind.max, IntKind.signed, IntKind.bits] at h
 omega
theorem wf_u64_nat (n : Int) (h : (Lit.int .u64 n).wf = true) : 0 ≤ n ∧ n < (18446744073709551616 : Nat) := by
 have := wf_u64_in h
 unfold B.InU64 at this
 omega

theorem open_bytes {fuel : Nat} {a : Option Addr} {len cap : Nat} {d : DataW H} {p : List MemPlace} (h : DataW.trod enc Tryz.prog w 0 (fun _ => true) held fuel 28 [.slice a len cap] = some (d, p)) :
    ∃ l : List Nat, ListAt w a len (l.map u8V) ∧ B.Bytes l ∧ (a = none → cap = 0) ∧ len ≤ 9223372036854775807 := by
 exact open_nums Tryz.underlying28 Tryz.underlying5 cells5 wf_u8_nat h

theorem open_words {fuel : Nat} {a : Option Addr} {len cap : Nat} {d : DataW H} {p : List MemPlace} (h : DataW.trod enc Tryz.prog w 0 (fun _ => true) held fuel 29 [.slice a len cap] = some (d, p)) :
    ∃ l : List Nat, ListAt w a len (l.map u64V) ∧ B.Words l ∧ (a = none → cap = 0) ∧ len ≤ 9223372036854775807 := by
 exact open_nums Tryz.underlying29 Tryz.underlying35 cells35 wf_u64_nat h
end

theorem open_cap {H : Type} {enc : TypeId × Value → H} {w : World} {held : Bool} {fuel : Nat} {a : Option Addr} {len cap : Nat} {d : DataW H} {p : List MemPlace} (h : DataW.trod enc Tryz.prog w 0 (fun _ => true) held fuel 78 [.slice a len cap] = some (d, p)) : len ≤ cap := by
 rcases Deep.open_slice Tryz.underlying78 h with ⟨hcs, _⟩ | ⟨ad, len', cap', m, n, D, Pl, hcs, _, hl, _⟩
 ·simp only [List.cons.injEq, and_true, Value.slice.injEq] at hcs
  obtain ⟨rfl, rfl, rfl⟩ := hcs
  exact Nat.le_refl _
 ·simp only [List.cons.injEq, and_true, Value.slice.injEq] at hcs
  obtain ⟨rfl, rfl, rfl⟩ := hcs
  exact hl

end Go.Proofs.YtdpjbnjlognmeaaGreatDoor
