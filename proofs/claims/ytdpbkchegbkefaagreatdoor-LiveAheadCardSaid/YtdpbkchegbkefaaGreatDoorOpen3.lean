/- A list of signed numbers that came in, opened; a program for a size and slots, opened. -/
import Derived.Test.YtdpbkchegbkefaaGreatDoorOpen2
namespace Go.Proofs.YtdpbkchegbkefaaGreatDoor
open Go.ChangeShapes Go.WideShapes Go.ChangeAt Go.RowKit Go.Proofs.YtdpbkchegbkefaaGreatDoor.Code

theorem bytes3 : Tryz.prog.bytesOf 3 = 8 := by kernel_rfl

section
variable {H : Type} {enc : TypeId × Value → H} {w : World} {held : Bool}

theorem open_ints3 {fuel : Nat} {a : Option Addr} {len cap : Nat} {d : DataW H} {p : List MemPlace} (h : DataW.trod enc Tryz.prog w 0 (fun _ => true) held fuel 38 [.slice a len cap] = some (d, p)) :
    ∃ l : List Int, ListAt w a len (l.map (Value.int .i64)) ∧ (∀ b ∈ l, B.In64 b) ∧ (a = none → cap = 0) ∧
      ∀ (ts : List TypeId) (ds : List (DataW H)) (j : Nat), (DataW.weightsEach Tryz.prog ts ds).all (· ≤ reachBytes) = true → ts[j]? = some 38 → ds[j]? = some d → len * 8 ≤ 140737488351232 := by
  rcases Deep.open_slice1 Tryz.underlying38 cells3 h with ⟨hcs, hx⟩ | ⟨ad, len', cap', m, n, V, D, Pl, hcs, _, hl, hm, hmm, hx, hel⟩
  · simp only [List.cons.injEq, and_true, Value.slice.injEq] at hcs
    obtain ⟨rfl, rfl, rfl⟩ := hcs
    exact ⟨[], ⟨rfl, fun i v hv => by simp at hv⟩, fun b hb => (by cases hb), fun _ => rfl, fun _ _ _ _ _ _ => by omega⟩
  · simp only [List.cons.injEq, and_true, Value.slice.injEq] at hcs
    obtain ⟨rfl, rfl, rfl⟩ := hcs
    simp only [if_true] at hmm
    subst hmm
    have one : ∀ i, i < len → ∃ b : Int, B.In64 b ∧ w.cell? (ad.add i) = some (.int .i64 b) := by
      intro i hi
      obtain ⟨h1, h2⟩ := hel i (by omega)
      obtain ⟨n0, e0, _, w0⟩ := DataW.trod_int Tryz.underlying3 h2
      simp only [List.cons.injEq, and_true] at e0
      exact ⟨n0, wf_i64_in w0, by rw [h1, e0]⟩
    obtain ⟨f, hf⟩ := Deep.choose_lt one
    refine ⟨(List.range len).map f, ⟨by simp, fun i v hv => ?_⟩, fun b hb => ?_, fun h => (by cases h), fun ts ds j hs ht' hd => ?_⟩
    · rw [List.map_map] at hv
      have hi : i < len := by simpa using (List.getElem?_eq_some_iff.1 hv).1
      rw [List.getElem?_map, List.getElem?_range hi] at hv
      simp at hv
      subst hv
      have h0 := (hf 0 (by omega)).2
      have hi2 := (hf i hi).2
      have sp := World.cell?_spot h0
      have e0 : ad.add 0 = ad := by unfold Addr.add; simp
      rw [e0] at sp
      obtain ⟨blk, off, spot⟩ := ad
      simp only at sp
      subst sp
      have ea : (⟨blk, off, none⟩ : Addr).add i = ⟨blk, off + i, none⟩ := by
        unfold Addr.add; split
        · rename_i hz; simp
        · rfl
      rw [ea] at hi2
      exact ⟨blk, off, rfl, World.block_lt_of_cell? w _ hi2, hi2⟩
    · obtain ⟨i, hi, rfl⟩ := List.mem_map.1 hb
      exact (hf i (List.mem_range.1 hi)).1
    · simp only [Prod.mk.injEq] at hx
      rw [hx.1] at hd
      have := sized_slice hs ht' hd Tryz.underlying38
      simp only [List.length_map, List.length_range] at this
      rw [bytes3] at this
      unfold reachBytes at this
      omega

theorem cells37 : Tryz.prog.cellsOf 37 = 3 := by kernel_rfl

set_option maxRecDepth 100000 in
/-- a program, for a size and slots -/
theorem open_asked {base : Nat} {v : Value} {d : DataW H} {p : List MemPlace} (hv : Value.okWide Tryz.prog w .any base 37 v) (h : DataW.Trod enc Tryz.prog w 0 (fun _ => true) held 37 v d p) :
    ∃ a len cap ps n1 n2, v = .agg #[.slice a len cap, .int .i64 n1, .int .i64 n2] ∧ (ProgAt w a len ps ∧ (∀ y ∈ ps, y.Wf) ∧ (a = none → cap = 0) ∧ len ≤ 9223372036854775807) ∧ B.In64 n1 ∧ B.In64 n2 := by
  obtain ⟨cs, rfl, hcs⟩ := okWide_struct Tryz.underlying37 hv
  rw [cells37] at hcs
  obtain ⟨fuel, hf⟩ := h
  obtain ⟨v0, v1, v2, hl⟩ := len3 (l := cs.toList) (by simpa using hcs)
  obtain rfl : cs = #[v0, v1, v2] := by cases cs; simp_all
  obtain ⟨xs, n, _, _, _, hn, hg⟩ := DataW.trod_struct Tryz.underlying37 hf
  have g0 := hg 0 _ rfl
  have g1 := hg 1 _ rfl
  have g2 := hg 2 _ rfl
  simp [Value.cells, cells22] at g0
  simp [Value.cells, cells3] at g1 g2
  have h3 : xs.length = 3 := hn
  obtain ⟨x0, x1, x2, rfl⟩ := len3 h3
  replace g0 : DataW.trod enc Tryz.prog w 0 (fun _ => true) held n 22 [v0] = some (x0.1, x0.2) := by simpa using g0
  obtain ⟨a, len, cap, rfl⟩ := slice_form Tryz.underlying22 g0
  obtain ⟨ps, hp⟩ := open_prog' g0
  obtain ⟨m1, e1, _, w1⟩ := DataW.trod_int Tryz.underlying3 (x := x1) (by simpa using g1)
  obtain ⟨m2, e2, _, w2⟩ := DataW.trod_int Tryz.underlying3 (x := x2) (by simpa using g2)
  simp only [List.cons.injEq, and_true] at e1 e2
  subst e1 e2
  exact ⟨a, len, cap, ps, m1, m2, rfl, hp, wf_i64_in w1, wf_i64_in w2⟩
end

end Go.Proofs.YtdpbkchegbkefaaGreatDoor
