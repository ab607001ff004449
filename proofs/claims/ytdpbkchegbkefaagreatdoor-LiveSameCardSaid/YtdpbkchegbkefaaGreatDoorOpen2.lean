/- Lists of numbers that came in, opened; a case (a program, a payload, values), opened. -/
import Derived.Test.YtdpbkchegbkefaaGreatDoorOpen
import Derived.Test.YtdpbkchegbkefaaGreatDoorVmS
namespace Go.Proofs.YtdpbkchegbkefaaGreatDoor
open Go.ChangeShapes Go.WideShapes Go.ChangeAt Go.RowKit Go.Proofs.YtdpbkchegbkefaaGreatDoor.Code

theorem cells5 : Tryz.prog.cellsOf 5 = 1 := by kernel_rfl

section
variable {H : Type} {enc : TypeId × Value → H} {w : World} {held : Bool}

theorem open_nums {t e : TypeId} {k : IntKind} {M : Nat} (ht : Tryz.prog.underlying t = some (.slice e)) (he : Tryz.prog.underlying e = some (.int k)) (hc : Tryz.prog.cellsOf e = 1) (hM : ∀ n : Int, (Lit.int k n).wf = true → 0 ≤ n ∧ n < M)
    {fuel : Nat} {a : Option Addr} {len cap : Nat} {d : DataW H} {p : List MemPlace} (h : DataW.trod enc Tryz.prog w 0 (fun _ => true) held fuel t [.slice a len cap] = some (d, p)) :
    ∃ l : List Nat, ListAt w a len (l.map (fun b : Nat => Value.int k (b : Int))) ∧ (∀ b ∈ l, b < M) ∧ (a = none → cap = 0) ∧ len ≤ 9223372036854775807 ∧
      ∀ (ts : List TypeId) (ds : List (DataW H)) (j : Nat), (DataW.weightsEach Tryz.prog ts ds).all (· ≤ reachBytes) = true → ts[j]? = some t → ds[j]? = some d → len * Tryz.prog.bytesOf e ≤ reachBytes := by
  rcases Deep.open_slice1 ht hc h with ⟨hcs, hx⟩ | ⟨ad, len', cap', m, n, V, D, Pl, hcs, _, hl, hm, hmm, hx, hel⟩
  · simp only [List.cons.injEq, and_true, Value.slice.injEq] at hcs
    obtain ⟨rfl, rfl, rfl⟩ := hcs
    exact ⟨[], ⟨rfl, fun i v hv => by simp at hv⟩, fun b hb => (by cases hb), fun _ => rfl, by omega, fun _ _ _ _ _ _ => by omega⟩
  · simp only [List.cons.injEq, and_true, Value.slice.injEq] at hcs
    obtain ⟨rfl, rfl, rfl⟩ := hcs
    simp only [if_true] at hmm
    subst hmm
    have one : ∀ i, i < len → ∃ b : Nat, b < M ∧ w.cell? (ad.add i) = some (.int k (b : Int)) := by
      intro i hi
      obtain ⟨h1, h2⟩ := hel i (by omega)
      obtain ⟨n0, e0, _, w0⟩ := DataW.trod_int he h2
      simp only [List.cons.injEq, and_true] at e0
      have hn := hM n0 w0
      obtain ⟨b, rfl⟩ : ∃ b : Nat, n0 = (b : Int) := ⟨n0.toNat, by omega⟩
      exact ⟨b, by omega, by rw [h1, e0]⟩
    obtain ⟨f, hf⟩ := Deep.choose_lt one
    refine ⟨(List.range len).map f, ⟨by simp, fun i v hv => ?_⟩, fun b hb => ?_, fun h => (by cases h), by unfold maxLen at hm; omega, fun ts ds j hs ht' hd => ?_⟩
    · rw [List.map_map] at hv
      have hi : i < len := by simpa using (List.getElem?_eq_some_iff.1 hv).1
      rw [List.getElem?_map, List.getElem?_range hi] at hv
      simp at hv
      subst hv
      have h0 := (hf 0 (by omega)).2
      have hi2 := (hf i hi).2
      have sp := World.cell?_spot h0
      have e0 : ad.add 0 = ad := by unfold Addr.add; simp
      rw [e0] at sp
      obtain ⟨blk, off, spot⟩ := ad
      simp only at sp
      subst sp
      have ea : (⟨blk, off, none⟩ : Addr).add i = ⟨blk, off + i, none⟩ := by
        unfold Addr.add; split
        · rename_i hz; simp
        · rfl
      rw [ea] at hi2
      exact ⟨blk, off, rfl, World.block_lt_of_cell? w _ hi2, hi2⟩
    · obtain ⟨i, hi, rfl⟩ := List.mem_map.1 hb
      exact (hf i (List.mem_range.1 hi)).1
    · simp only [Prod.mk.injEq] at hx
      rw [hx.1] at hd
      have := sized_slice hs ht' hd ht
      simp only [List.length_map, List.length_range] at this
      refine Nat.le_trans (Nat.mul_le_mul_right _ (Nat.le_add_right _ _)) this

theorem wf_u8_nat (n : Int) (h : (Lit.int .u8 n).wf = true) : 0 ≤ n ∧ n < (256 : Nat) := by
  simp [Lit.wf, IntKind.min, IntKind.max, IntKind.signed, IntKind.bits] at h
  omega
theorem wf_u64_nat (n : Int) (h : (Lit.int .u64 n).wf = true) : 0 ≤ n ∧ n < (18446744073709551616 : Nat) := by
  have := wf_u64_in h
  unfold B.InU64 at this
  omega

theorem open_bytes {fuel : Nat} {a : Option Addr} {len cap : Nat} {d : DataW H} {p : List MemPlace} (h : DataW.trod enc Tryz.prog w 0 (fun _ => true) held fuel 48 [.slice a len cap] = some (d, p)) :
    ∃ l : List Nat, ListAt w a len (l.map u8V) ∧ B.Bytes l ∧ (a = none → cap = 0) ∧ len ≤ 9223372036854775807 := by
  obtain ⟨l, h1, h2, h3, h4, _⟩ := open_nums Tryz.underlying48 Tryz.underlying5 cells5 wf_u8_nat h
  exact ⟨l, h1, h2, h3, h4⟩

theorem open_words {fuel : Nat} {a : Option Addr} {len cap : Nat} {d : DataW H} {p : List MemPlace} (h : DataW.trod enc Tryz.prog w 0 (fun _ => true) held fuel 49 [.slice a len cap] = some (d, p)) :
    ∃ l : List Nat, ListAt w a len (l.map u64V) ∧ B.Words l ∧ (a = none → cap = 0) ∧ len ≤ 9223372036854775807 := by
  obtain ⟨l, h1, h2, h3, h4, _⟩ := open_nums Tryz.underlying49 Tryz.underlying31 cells31 wf_u64_nat h
  exact ⟨l, h1, h2, h3, h4⟩

theorem open_prog' {fuel : Nat} {a : Option Addr} {len cap : Nat} {d : DataW H} {p : List MemPlace} (h : DataW.trod enc Tryz.prog w 0 (fun _ => true) held fuel 22 [.slice a len cap] = some (d, p)) :
    ∃ ps, ProgAt w a len ps ∧ (∀ y ∈ ps, y.Wf) ∧ (a = none → cap = 0) ∧ len ≤ 9223372036854775807 := by
  obtain ⟨ps, h1, h2, _⟩ := open_prog h
  refine ⟨ps, h1, h2, ?_, ?_⟩
  · rcases Deep.open_slice Tryz.underlying22 h with ⟨hcs, hx⟩ | ⟨ad, len', cap', m, n, D, Pl, hcs, _⟩
    · simp only [List.cons.injEq, and_true, Value.slice.injEq] at hcs
      obtain ⟨rfl, rfl, rfl⟩ := hcs
      exact fun _ => rfl
    · simp only [List.cons.injEq, and_true, Value.slice.injEq] at hcs
      obtain ⟨rfl, rfl, rfl⟩ := hcs
      intro h
      cases h
  · rcases Deep.open_slice Tryz.underlying22 h with ⟨hcs, hx⟩ | ⟨ad, len', cap', m, n, D, Pl, hcs, _, hl, hm, _⟩
    · simp only [List.cons.injEq, and_true, Value.slice.injEq] at hcs
      obtain ⟨rfl, rfl, rfl⟩ := hcs
      omega
    · simp only [List.cons.injEq, and_true, Value.slice.injEq] at hcs
      obtain ⟨rfl, rfl, rfl⟩ := hcs
      unfold maxLen at hm
      omega

theorem slice_form {t e : TypeId} {fuel : Nat} {v : Value} {x : DataW H × List MemPlace} (ht : Tryz.prog.underlying t = some (.slice e)) (h : DataW.trod enc Tryz.prog w 0 (fun _ => true) held fuel t [v] = some x) : ∃ a len cap, v = .slice a len cap := by
  rcases Deep.open_slice ht h with ⟨hcs, _⟩ | ⟨ad, len', cap', m, n, D, Pl, hcs, _⟩
  · exact ⟨none, 0, 0, by simpa using hcs⟩
  · exact ⟨some ad, len', cap', by simpa using hcs⟩

theorem len3 {α : Type} {l : List α} (h : l.length = 3) : ∃ a b c, l = [a, b, c] := by
  match l, h with
  | [a, b, c], _ => exact ⟨a, b, c, rfl⟩
theorem len4 {α : Type} {l : List α} (h : l.length = 4) : ∃ a b c d, l = [a, b, c, d] := by
  match l, h with
  | [a, b, c, d], _ => exact ⟨a, b, c, d, rfl⟩

theorem cells149 : Tryz.prog.cellsOf 149 = 3 := by kernel_rfl
theorem cells146 : Tryz.prog.cellsOf 146 = 4 := by kernel_rfl
theorem cells22 : Tryz.prog.cellsOf 22 = 1 := by kernel_rfl
theorem cells48 : Tryz.prog.cellsOf 48 = 1 := by kernel_rfl
theorem cells49 : Tryz.prog.cellsOf 49 = 1 := by kernel_rfl
theorem cells4 : Tryz.prog.cellsOf 4 = 1 := by kernel_rfl

set_option maxRecDepth 100000 in
/-- a case: a program, a payload, values -/
theorem open_case {base : Nat} {v : Value} {d : DataW H} {p : List MemPlace} (hv : Value.okWide Tryz.prog w .any base 149 v) (h : DataW.Trod enc Tryz.prog w 0 (fun _ => true) held 149 v d p) :
    ∃ a len cap ps pa pn pc pay ia im ic inp, v = .agg #[.slice a len cap, .slice pa pn pc, .slice ia im ic] ∧ (ProgAt w a len ps ∧ (∀ y ∈ ps, y.Wf) ∧ (a = none → cap = 0) ∧ len ≤ 9223372036854775807) ∧
      (ListAt w pa pn (pay.map u8V) ∧ B.Bytes pay ∧ (pa = none → pc = 0) ∧ pn ≤ 9223372036854775807) ∧ (ListAt w ia im (inp.map u64V) ∧ B.Words inp ∧ (ia = none → ic = 0) ∧ im ≤ 9223372036854775807) := by
  obtain ⟨cs, rfl, hcs⟩ := okWide_struct Tryz.underlying149 hv
  rw [cells149] at hcs
  obtain ⟨fuel, hf⟩ := h
  obtain ⟨v0, v1, v2, hl⟩ := len3 (l := cs.toList) (by simpa using hcs)
  obtain rfl : cs = #[v0, v1, v2] := by cases cs; simp_all
  obtain ⟨xs, n, _, _, _, hn, hg⟩ := DataW.trod_struct Tryz.underlying149 hf
  have g0 := hg 0 _ rfl
  have g1 := hg 1 _ rfl
  have g2 := hg 2 _ rfl
  simp [Value.cells, cells22] at g0
  simp [Value.cells, cells48] at g1
  simp [Value.cells, cells49] at g2
  have h3 : xs.length = 3 := hn
  obtain ⟨x0, x1, x2, rfl⟩ := len3 h3
  replace g0 : DataW.trod enc Tryz.prog w 0 (fun _ => true) held n 22 [v0] = some (x0.1, x0.2) := by simpa using g0
  replace g1 : DataW.trod enc Tryz.prog w 0 (fun _ => true) held n 48 [v1] = some (x1.1, x1.2) := by simpa using g1
  replace g2 : DataW.trod enc Tryz.prog w 0 (fun _ => true) held n 49 [v2] = some (x2.1, x2.2) := by simpa using g2
  obtain ⟨a, len, cap, rfl⟩ := slice_form Tryz.underlying22 g0
  obtain ⟨pa, pn, pc, rfl⟩ := slice_form Tryz.underlying48 g1
  obtain ⟨ia, im, ic, rfl⟩ := slice_form Tryz.underlying49 g2
  obtain ⟨ps, hp⟩ := open_prog' g0
  obtain ⟨pay, hy⟩ := open_bytes g1
  obtain ⟨inp, hu⟩ := open_words g2
  exact ⟨a, len, cap, ps, pa, pn, pc, pay, ia, im, ic, inp, rfl, hp, hy, hu⟩

set_option maxRecDepth 100000 in
/-- where bytes are laid, and how -/
theorem open_place {base : Nat} {v : Value} {d : DataW H} {p : List MemPlace} (hv : Value.okWide Tryz.prog w .any base 146 v) (h : DataW.Trod enc Tryz.prog w 0 (fun _ => true) held 146 v d p) :
    ∃ (n0 : Nat) (n1 n2 : Int) (b : Bool), v = .agg #[.int .u64 (n0 : Int), .int .i64 n1, .int .i64 n2, .bool b] ∧ n0 < 18446744073709551616 ∧ B.In64 n1 ∧ B.In64 n2 := by
  obtain ⟨cs, rfl, hcs⟩ := okWide_struct Tryz.underlying146 hv
  rw [cells146] at hcs
  obtain ⟨fuel, hf⟩ := h
  obtain ⟨v0, v1, v2, v3, hl⟩ := len4 (l := cs.toList) (by simpa using hcs)
  obtain rfl : cs = #[v0, v1, v2, v3] := by cases cs; simp_all
  obtain ⟨xs, n, _, _, _, hn, hg⟩ := DataW.trod_struct Tryz.underlying146 hf
  have g0 := hg 0 _ rfl
  have g1 := hg 1 _ rfl
  have g2 := hg 2 _ rfl
  have g3 := hg 3 _ rfl
  simp [Value.cells, cells31] at g0
  simp [Value.cells, cells3] at g1 g2
  simp [Value.cells, cells4] at g3
  have h4 : xs.length = 4 := hn
  obtain ⟨x0, x1, x2, x3, rfl⟩ := len4 h4
  obtain ⟨m0, e0, _, w0⟩ := DataW.trod_int Tryz.underlying31 (x := x0) (by simpa using g0)
  obtain ⟨m1, e1, _, w1⟩ := DataW.trod_int Tryz.underlying3 (x := x1) (by simpa using g1)
  obtain ⟨m2, e2, _, w2⟩ := DataW.trod_int Tryz.underlying3 (x := x2) (by simpa using g2)
  obtain ⟨b, e3, _⟩ := DataW.trod_bool Tryz.underlying4 (x := x3) (by simpa using g3)
  simp only [List.cons.injEq, and_true] at e0 e1 e2 e3
  subst e0 e1 e2 e3
  have hw := wf_u64_nat _ w0
  obtain ⟨k, rfl⟩ : ∃ k : Nat, m0 = (k : Int) := ⟨m0.toNat, by omega⟩
  exact ⟨k, m1, m2, b, rfl, by omega, wf_i64_in w1, wf_i64_in w2⟩
end

end Go.Proofs.YtdpbkchegbkefaaGreatDoor
